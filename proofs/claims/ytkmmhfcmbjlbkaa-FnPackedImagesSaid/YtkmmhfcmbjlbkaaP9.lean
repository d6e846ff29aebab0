/- The reference's draws: numbers below a bound, one of a row, bytes. -/
import Derived.Test.YtkmmhfcmbjlbkaaP8
set_option linter.unusedVariables false
set_option linter.unusedSimpArgs false
namespace Go.Am
open Go Go.RowKit Go.Proofs

theorem tmod_bd {t k : Int} (h0 : 0 ≤ t) (hk : 0 < k) : 0 ≤ t.tmod k ∧ t.tmod k < k := by
  rw [Int.tmod_eq_emod_of_nonneg h0]
  exact ⟨Int.emod_nonneg _ (by omega), Int.emod_lt_of_pos _ hk⟩

def BelowR (n g : Nat) (z : Nat → Int) (k : Int) (res : PV) (h : List AObj) : Prop :=
  ∃ (v : Int) (i' : Nat) (q' : Int), i' ≤ n ∧ (0 < k → 0 ≤ v ∧ v < k) ∧ res = .int .i64 v ∧ h = [cur g n z i' q']

theorem l1Below_ok (g n : Nat) (hn : n ≤ 1048576) (z : Nat → Int) (i : Nat) (hi : i ≤ n) (q k : Int) : ACall Try.prog 29 [.optr 0 g 0 0, .int .i64 k] [cur g n z i q] (BelowR n g z k) := by
  refine ACall.of_vc tab_ok mixed Try.func29 rfl (by kernel_rfl) _ _ _ rfl (by kernel_rfl) ?_
  refine splitB.mk (fun h => ?_) (fun h => ?_)
  · have h := of_decide_eq_true h
    exact ⟨[0], .int .i64 0, [cur g n z i q], by simp, by simp, .int_eq rfl, ⟨⟨fun _ => ⟨rfl, rfl⟩, rfl, rfl, rfl, fun j hj => ⟨.slc_eq rfl (fun _ _ => rfl), .int_eq rfl, .int_eq rfl, trivial⟩⟩, trivial⟩, 0, i, q, hi, fun hk => by omega, rfl, rfl⟩
  · have h := of_decide_eq_false h
    refine splitB.mk (fun h2 => ?_) (fun h2 => ?_)
    · refine ⟨_, l1Byte_ok g n hn z i hi q, ?_⟩
      rintro _ _ ⟨v, i', q', h0, h1, hi', rfl, rfl⟩
      refine ⟨by omega, ?_⟩
      exact ⟨[0], .int .i64 (v.tmod k), [cur g n z i' q'], by simp, by simp, .int_eq rfl, ⟨⟨fun _ => ⟨rfl, rfl⟩, rfl, rfl, rfl, fun j hj => ⟨.slc_eq rfl (fun _ _ => rfl), .int_eq rfl, .int_eq rfl, trivial⟩⟩, trivial⟩, _, i', q', hi', fun hk => tmod_bd h0 hk, rfl, rfl⟩
    · refine ⟨_, l1Byte_ok g n hn z i hi q, ?_⟩
      rintro _ _ ⟨v1, i1, q1, a0, a1, hi1, rfl, rfl⟩
      refine ⟨_, l1Byte_ok g n hn z i1 hi1 q1, ?_⟩
      rintro _ _ ⟨v2, i2, q2, b0, b1, hi2, rfl, rfl⟩
      refine ⟨_, l1Byte_ok g n hn z i2 hi2 q2, ?_⟩
      rintro _ _ ⟨v3, i3, q3, c0, c1, hi3, rfl, rfl⟩
      refine ⟨by omega, ?_⟩
      refine ⟨[0], .int .i64 ((v1 * 65536 + v2 * 256 + v3).tmod k), [cur g n z i3 q3], by simp, by simp, .int_eq ?_, ⟨⟨fun _ => ⟨rfl, rfl⟩, rfl, rfl, rfl, fun j hj => ⟨.slc_eq rfl (fun _ _ => rfl), .int_eq rfl, .int_eq rfl, trivial⟩⟩, trivial⟩, _, i3, q3, hi3, fun hk => tmod_bd (by omega) hk, rfl, rfl⟩
      rw [w64 (x := v1 * 65536) (by omega) (by omega), w64 (x := v2 * 256) (by omega) (by omega), w64 (x := v1 * 65536 + v2 * 256) (by omega) (by omega), w64 (by omega) (by omega)]

theorem l1Once_ok (g n : Nat) (hn : n ≤ 1048576) (z : Nat → Int) (i : Nat) (hi : i ≤ n) (q k : Int) : ACall Try.prog 26 [.optr 0 g 0 0, .int .i64 k] [cur g n z i q]
    (fun res h => ∃ (b : Bool) (i' : Nat) (q' : Int), i' ≤ n ∧ res = .bool b ∧ h = [cur g n z i' q']) := by
  refine ACall.of_vc tab_ok mixed Try.func26 rfl (by kernel_rfl) _ _ _ rfl (by kernel_rfl) ?_
  refine ⟨_, l1Below_ok g n hn z i hi q k, ?_⟩
  rintro _ _ ⟨v, i', q', hi', _, rfl, rfl⟩
  exact ⟨[0], .bool (v == 0), [cur g n z i' q'], by simp, by simp, .bool _, ⟨⟨fun _ => ⟨rfl, rfl⟩, rfl, rfl, rfl, fun j hj => ⟨.slc_eq rfl (fun _ _ => rfl), .int_eq rfl, .int_eq rfl, trivial⟩⟩, trivial⟩, _, i', q', hi', rfl, rfl⟩

theorem l1Int_ok (g n : Nat) (hn : n ≤ 1048576) (z : Nat → Int) (i : Nat) (hi : i ≤ n) (q : Int) (g' m : Nat) (hm : 0 < m) (x : Nat → Int) : ACall Try.prog 27 [.optr 0 g 0 0, .own 1 g' 0 m] [cur g n z i q, .row g' 1 m 3 (ints .i64 x)]
    (fun res h => ∃ (t i' : Nat) (q' : Int), t < m ∧ i' ≤ n ∧ res = .int .i64 (x t) ∧ h = [cur g n z i' q', .row g' 1 m 3 (ints .i64 x)]) := by
  refine ACall.of_vc tab_ok mixed Try.func27 rfl (by kernel_rfl) _ _ _ rfl (by kernel_rfl) ?_
  refine ⟨rfl, ?_⟩
  refine ⟨fun res h => ∃ (v : Int) (i' : Nat) (q' : Int), i' ≤ n ∧ (0 < (m : Int) → 0 ≤ v ∧ v < m) ∧ res = .int .i64 v ∧ h = [cur g n z i' q', .row g' 1 m 3 (ints .i64 x)],
    ((l1Below_ok g n hn z i hi q m).over [0] [cur g n z i q, .row g' 1 m 3 (ints .i64 x)] rfl (by simp) (by simp) (by rintro (_ | j) o hj <;> cases hj <;> rfl) rfl).mono (by rintro _ _ ⟨_, _, ⟨v, i', q', h1, h2, rfl, rfl⟩, rfl, rfl⟩; exact ⟨v, i', q', h1, h2, rfl, rfl⟩), ?_⟩
  rintro _ _ ⟨v, i', q', hi', hv, rfl, rfl⟩
  have hv := hv (by omega)
  refine ⟨rfl, ⟨by omega, by omega⟩, rfl, ?_⟩
  refine ⟨[0, 1], .int .i64 (x v.toNat), [cur g n z i' q', .row g' 1 m 3 (ints .i64 x)], by simp, by simp, .int_eq (by simp), ⟨⟨fun _ => ⟨rfl, rfl⟩, rfl, rfl, rfl, fun j hj => ⟨.slc_eq rfl (fun _ _ => rfl), .int_eq rfl, .int_eq rfl, trivial⟩⟩, ⟨fun _ => ⟨rfl, rfl⟩, rfl, rfl, rfl, fun j hj => ⟨.int_eq rfl, trivial⟩⟩, trivial⟩, v.toNat, i', q', by omega, hi', rfl, rfl⟩

theorem l1Bytes_ok (g n : Nat) (hn : n ≤ 1048576) (z : Nat → Int) (i : Nat) (hi : i ≤ n) (q : Int) (k : Nat) (hk : k ≤ 1048576) : ACall Try.prog 28 [.optr 0 g 0 0, .int .i64 k] [cur g n z i q]
    (fun res h => ∃ (y : Nat → Int) (i' : Nat) (q' : Int), (∀ j, 0 ≤ y j ∧ y j ≤ 255) ∧ i' ≤ n ∧ res = .own 1 0 0 k ∧ h = [cur g n z i' q', .row 0 1 k 5 (ints .u8 y)]) := by
  refine ACall.of_vc tab_ok mixed Try.func28 rfl (by kernel_rfl) _ _ _ rfl (by kernel_rfl) ?_
  refine LoopVC.mk (Nat × (Nat → Int) × Nat × Int) (fun s => [(0, .optr 0 g 0 0), (1, .int .i64 k), (5, .own 1 0 0 s.1), (6, .int .i64 s.1)])
    (fun s => [cur g n z s.2.2.1 s.2.2.2, .row 0 1 s.1 5 (ints .u8 s.2.1)]) (fun s => s.1 ≤ k ∧ (∀ j, 0 ≤ s.2.1 j ∧ s.2.1 j ≤ 255) ∧ s.2.2.1 ≤ n) (fun s => k - s.1) (0, (fun _ => 0), i, q) ⟨Nat.zero_le _, fun _ => ⟨by simp, by simp⟩, hi⟩ ?_ (fun s hs => ?_)
  · exact ⟨[0, 1], by simp, by simp, ⟨.optr_eq rfl ⟨_, _, _, _, rfl⟩ ⟨_, _, _, _, rfl⟩ rfl rfl, .int_eq rfl, .own_eq rfl ⟨_, _, _, _, rfl⟩ ⟨_, _, _, _, rfl⟩ rfl rfl, .int_eq rfl, trivial⟩, ⟨⟨fun _ => ⟨rfl, rfl⟩, rfl, rfl, rfl, fun j hj => ⟨.slc_eq rfl (fun _ _ => rfl), .int_eq rfl, .int_eq rfl, trivial⟩⟩, ⟨fun h => absurd h (by simp), rfl, rfl, rfl, fun j hj => absurd hj (Nat.not_lt_zero _)⟩, trivial⟩⟩
  · obtain ⟨t, y, i', q'⟩ := s
    obtain ⟨ht, hy, hi'⟩ := hs
    simp only at ht hy hi'
    refine splitB.mk (fun h => ?_) (fun h => ?_)
    · have h := of_decide_eq_true h
      refine ⟨fun res h => ∃ (v : Int) (i2 : Nat) (q2 : Int), 0 ≤ v ∧ v ≤ 255 ∧ i2 ≤ n ∧ res = .int .i64 v ∧ h = [cur g n z i2 q2, .row 0 1 t 5 (ints .u8 y)],
        ((l1Byte_ok g n hn z i' hi' q').over [0] [cur g n z i' q', .row 0 1 t 5 (ints .u8 y)] rfl (by simp) (by simp) (by rintro (_ | j) o hj <;> cases hj <;> rfl) rfl).mono (by rintro _ _ ⟨_, _, ⟨v, i', q', h1, h2, h3, rfl, rfl⟩, rfl, rfl⟩; exact ⟨v, i', q', h1, h2, h3, rfl, rfl⟩), ?_⟩
      rintro _ _ ⟨v, i2, q2, hv0, hv1, hi2, rfl, rfl⟩
      have htk : t < k := by simp only at h; omega
      refine ⟨rfl, rfl, by omega, ?_⟩
      refine ⟨(t + 1, (fun j => if j < t then y j else v), i2, q2), ⟨by simp only; omega, fun j => by simp only; split; exact hy j; exact ⟨hv0, hv1⟩, hi2⟩, by simp only; omega, [0, 1], by simp, by simp, ⟨.optr_eq rfl ⟨_, _, _, _, rfl⟩ ⟨_, _, _, _, rfl⟩ rfl rfl, .int_eq rfl, .own_eq rfl ⟨_, _, _, _, rfl⟩ ⟨_, _, _, _, rfl⟩ rfl rfl, .int_eq (by simp only; rw [w64] <;> omega), trivial⟩, ⟨fun _ => ⟨rfl, rfl⟩, rfl, rfl, rfl, fun j hj => ⟨.slc_eq rfl (fun _ _ => rfl), .int_eq rfl, .int_eq rfl, trivial⟩⟩, ⟨fun h => absurd h (by simp), rfl, rfl, rfl, ?_⟩, trivial⟩
      intro j hj
      dsimp only
      rcases Nat.lt_or_ge j t with hjl | hjl
      · rw [bif_lt hjl]
        exact ⟨.int_eq (by simp [hjl]), trivial⟩
      · rw [bif_ge hjl]
        have : j = t := by simp only at hj; omega
        subst this
        rw [Nat.sub_self]
        exact ⟨.int_eq (by simp only [Nat.lt_irrefl, if_false]; rw [IntKind.wrap_u8]; omega), trivial⟩
    · have h := of_decide_eq_false h
      have htk : t = k := by simp only at h; omega
      subst htk
      exact ⟨[0, 1], .own 1 0 0 t, [cur g n z i' q', .row 0 1 t 5 (ints .u8 y)], by simp, by simp, .own_eq rfl ⟨_, _, _, _, rfl⟩ ⟨_, _, _, _, rfl⟩ rfl rfl, ⟨⟨fun _ => ⟨rfl, rfl⟩, rfl, rfl, rfl, fun j hj => ⟨.slc_eq rfl (fun _ _ => rfl), .int_eq rfl, .int_eq rfl, trivial⟩⟩, ⟨fun h => absurd h (by simp), rfl, rfl, rfl, fun j hj => ⟨.int_eq rfl, trivial⟩⟩, trivial⟩, y, i', q', hy, hi', rfl, rfl⟩

def odds : List Int := [-1, 0, 1, 2, 255, 256, 65535, 2147483647, 2147483648, 4294967295, 4294967296, -2147483648, 9223372036854775807, -9223372036854775808]
theorem l1Odd_ok (g n : Nat) (hn : n ≤ 1048576) (z : Nat → Int) (i : Nat) (hi : i ≤ n) (q : Int) : ACall Try.prog 30 [.optr 0 g 0 0] [cur g n z i q]
    (fun res h => ∃ (v : Int) (i' : Nat) (q' : Int), i' ≤ n ∧ res = .int .i64 v ∧ h = [cur g n z i' q']) := by
  refine ACall.of_vc tab_ok mixed Try.func30 rfl (by kernel_rfl) _ _ _ rfl (by kernel_rfl) ?_
  refine ⟨_, (l1Int_ok g n hn z i hi q 0 14 (by omega) (fun j => odds.getD j 0)).heq ⟨⟨rfl, rfl, rfl, rfl, fun _ _ => rfl⟩, ⟨rfl, rfl, rfl, rfl, fun j hj => ?_⟩, trivial⟩, ?_⟩
  · have : j = 0 ∨ j = 1 ∨ j = 2 ∨ j = 3 ∨ j = 4 ∨ j = 5 ∨ j = 6 ∨ j = 7 ∨ j = 8 ∨ j = 9 ∨ j = 10 ∨ j = 11 ∨ j = 12 ∨ j = 13 := by omega
    rcases this with rfl | rfl | rfl | rfl | rfl | rfl | rfl | rfl | rfl | rfl | rfl | rfl | rfl | rfl <;> rfl
  · rintro _ _ ⟨t, i', q', ht, hi', rfl, rfl⟩
    exact ⟨[0], .int .i64 _, [cur g n z i' q'], by simp, by simp, .int_eq rfl, ⟨⟨fun _ => ⟨rfl, rfl⟩, rfl, rfl, rfl, fun j hj => ⟨.slc_eq rfl (fun _ _ => rfl), .int_eq rfl, .int_eq rfl, trivial⟩⟩, trivial⟩, _, i', q', hi', rfl, rfl⟩

theorem drawPack_ok (n : Nat) (hn : n ≤ 1048576) (z : Nat → Int) : ACall Try.prog 19 [.slc 1 n (ints .u8 z)] []
    (fun res h => ∃ (m : Nat) (y : Nat → Int), m ≤ 24001 ∧ (∀ j, 0 ≤ y j ∧ y j ≤ 255) ∧ res = .own 0 0 0 m ∧ h = [.row 0 1 m 5 (ints .u8 y)]) := by
  refine ACall.of_vc tab_ok mixed Try.func19 rfl (by kernel_rfl) _ _ _ rfl (by kernel_rfl) ?_
  refine ⟨_, l1New_ok n hn z, ?_⟩
  rintro _ _ ⟨q, rfl, rfl⟩
  refine ⟨_, l1Once_ok 0 n hn z 0 (Nat.zero_le _) q 12, ?_⟩
  rintro _ _ ⟨b, i1, q1, hi1, rfl, rfl⟩
  refine splitB.mk (fun _ => ?_) (fun _ => ?_)
  · refine ⟨_, (l1Int_ok 0 n hn z i1 hi1 q1 0 2 (by omega) (fun j => if j = 0 then 24000 else 24001)).heq ⟨⟨rfl, rfl, rfl, rfl, fun _ _ => rfl⟩, ⟨rfl, rfl, rfl, rfl, fun j hj => ?_⟩, trivial⟩, ?_⟩
    · have : j = 0 ∨ j = 1 := by omega
      rcases this with rfl | rfl <;> rfl
    · rintro _ _ ⟨t, i', q', ht, hi', rfl, rfl⟩
      have hv : ∃ m : Nat, (if t = 0 then (24000 : Int) else 24001) = m ∧ m ≤ 24001 := by
        by_cases h : t = 0
        · exact ⟨24000, by rw [if_pos h]; rfl, by omega⟩
        · exact ⟨24001, by rw [if_neg h]; rfl, by omega⟩
      obtain ⟨m, hm1, hm2⟩ := hv
      rw [hm1]
      refine ⟨⟨by omega, by omega, by omega, by simp; omega⟩, ?_⟩
      exact ⟨[2], .own 0 0 0 m, [.row 0 1 m 5 (ints .u8 fun _ => 0)], by simp, Nat.zero_le _, .own_eq rfl ⟨_, _, _, _, rfl⟩ ⟨_, _, _, _, rfl⟩ rfl rfl, ⟨⟨fun h => absurd h (Nat.not_lt_zero _), rfl, rfl, rfl, fun j hj => ⟨.int_eq rfl, trivial⟩⟩, trivial⟩, m, _, hm2, fun _ => ⟨by simp, by simp⟩, rfl, rfl⟩
  · refine ⟨_, l1Below_ok 0 n hn z i1 hi1 q1 20, ?_⟩
    rintro _ _ ⟨v, i2, q2, hi2, hv, rfl, rfl⟩
    obtain ⟨hv0, hv1⟩ := hv (by omega)
    obtain ⟨k, rfl⟩ := Int.eq_ofNat_of_zero_le hv0
    refine ⟨_, l1Bytes_ok 0 n hn z i2 hi2 q2 k (by omega), ?_⟩
    rintro _ _ ⟨y, i3, q3, hy, hi3, rfl, rfl⟩
    exact ⟨[1], .own 0 0 0 k, [.row 0 1 k 5 (ints .u8 y)], by simp, Nat.zero_le _, .own_eq rfl ⟨_, _, _, _, rfl⟩ ⟨_, _, _, _, rfl⟩ rfl rfl, ⟨⟨fun h => absurd h (Nat.not_lt_zero _), rfl, rfl, rfl, fun j hj => ⟨.int_eq rfl, trivial⟩⟩, trivial⟩, k, y, by omega, hy, rfl, rfl⟩

end Go.Am
