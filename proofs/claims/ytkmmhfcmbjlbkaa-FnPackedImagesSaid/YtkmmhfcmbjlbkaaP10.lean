/- The reference's drawn words; comparison of texts and of rows. -/
import Derived.Test.YtkmmhfcmbjlbkaaP9
set_option linter.unusedVariables false
set_option linter.unusedSimpArgs false
namespace Go.Am
open Go Go.RowKit Go.Proofs

theorem drawUnpack_ok (n : Nat) (hn : n ≤ 1048576) (z : Nat → Int) : ACall Try.prog 21 [.slc 1 n (ints .u8 z)] []
    (fun res h => ∃ (m N : Nat) (x : Nat → Int), m ≤ N ∧ m ≤ 1048576 ∧ res = .own 0 0 0 m ∧ h = [.row 0 1 N 3 (ints .i64 x)]) := by
  refine ACall.of_vc tab_ok mixed Try.func21 rfl (by kernel_rfl) _ _ _ rfl (by kernel_rfl) ?_
  refine ⟨_, l1New_ok n hn z, ?_⟩
  rintro _ _ ⟨q, rfl, rfl⟩
  refine ⟨_, l1Below_ok 0 n hn z 0 (Nat.zero_le _) q 20, ?_⟩
  rintro _ _ ⟨v, i2, q2, hi2, hv, rfl, rfl⟩
  obtain ⟨hv0, hv1⟩ := hv (by omega)
  obtain ⟨k, rfl⟩ := Int.eq_ofNat_of_zero_le hv0
  refine ⟨_, l1Bytes_ok 0 n hn z i2 hi2 q2 k (by omega), ?_⟩
  rintro _ _ ⟨y, i3, q3, hy, hi3, rfl, rfl⟩
  have hW : words k + 1 ≤ 5 := by unfold words; omega
  refine ⟨fun res h => res = .tup [.own 2 0 0 (words k + 1), .bool true] ∧ h = [cur 0 n z i3 q3, .row 0 1 k 5 (ints .u8 y), .row 0 1 (words k + 1) 3 (ints .i64 (packed y k))],
    ((packS_ok k (by omega) y hy).snapL (args := [.own 1 0 0 k]) [cur 0 n z i3 q3, .row 0 1 k 5 (ints .u8 y)] ⟨.snap rfl rfl rfl (fun _ _ => rfl) (fun i hi => ⟨.int_eq (by simp [hi]), trivial⟩), trivial⟩ rfl (by rintro _ _ ⟨rfl, rfl⟩; exact ⟨rfl, by simp [flatO, flat1]⟩)).mono (by rintro _ _ ⟨_, _, ⟨rfl, rfl⟩, rfl, rfl⟩; exact ⟨rfl, rfl⟩), ?_⟩
  rintro _ _ ⟨rfl, rfl⟩
  refine ⟨fun res h => ∃ (v : Int) (i' : Nat) (q' : Int), i' ≤ n ∧ (0 < (5 : Int) → 0 ≤ v ∧ v < (5 : Int)) ∧ res = .int .i64 v ∧ h = [cur 0 n z i' q', .row 0 1 k 5 (ints .u8 y), .row 0 1 (words k + 1) 3 (ints .i64 (packed y k))],
    ((l1Below_ok 0 n hn z i3 hi3 q3 (5 : Int)).over [0] [cur 0 n z i3 q3, .row 0 1 k 5 (ints .u8 y), .row 0 1 (words k + 1) 3 (ints .i64 (packed y k))] rfl (by simp) (by simp) (by rintro (_ | j) o hj <;> cases hj <;> rfl) rfl).mono (by rintro _ _ ⟨_, _, ⟨v, i', q', h1, h2, rfl, rfl⟩, rfl, rfl⟩; exact ⟨v, i', q', h1, h2, rfl, rfl⟩), ?_⟩
  rintro _ _ ⟨s, i4, q4, hi4, _, rfl, rfl⟩
  refine splitB.mk (fun _ => ?_) (fun _ => ?_)
  · refine ⟨rfl, ?_⟩
    refine ⟨fun res h => ∃ (v : Int) (i' : Nat) (q' : Int), i' ≤ n ∧ (0 < ((words k + 1 : Nat) : Int) → 0 ≤ v ∧ v < ((words k + 1 : Nat) : Int)) ∧ res = .int .i64 v ∧ h = [cur 0 n z i' q', .row 0 1 k 5 (ints .u8 y), .row 0 1 (words k + 1) 3 (ints .i64 (packed y k))],
      ((l1Below_ok 0 n hn z i4 hi4 q4 ((words k + 1 : Nat) : Int)).over [0] [cur 0 n z i4 q4, .row 0 1 k 5 (ints .u8 y), .row 0 1 (words k + 1) 3 (ints .i64 (packed y k))] rfl (by simp) (by simp) (by rintro (_ | j) o hj <;> cases hj <;> rfl) rfl).mono (by rintro _ _ ⟨_, _, ⟨v, i', q', h1, h2, rfl, rfl⟩, rfl, rfl⟩; exact ⟨v, i', q', h1, h2, rfl, rfl⟩), ?_⟩
    rintro _ _ ⟨t, i5, q5, hi5, ht, rfl, rfl⟩
    obtain ⟨ht0, ht1⟩ := ht (by omega)
    refine ⟨fun res h => ∃ (v : Int) (i' : Nat) (q' : Int), i' ≤ n ∧ res = .int .i64 v ∧ h = [cur 0 n z i' q', .row 0 1 k 5 (ints .u8 y), .row 0 1 (words k + 1) 3 (ints .i64 (packed y k))],
      ((l1Odd_ok 0 n hn z i5 hi5 q5).over [0] [cur 0 n z i5 q5, .row 0 1 k 5 (ints .u8 y), .row 0 1 (words k + 1) 3 (ints .i64 (packed y k))] rfl (by simp) (by simp) (by rintro (_ | j) o hj <;> cases hj <;> rfl) rfl).mono (by rintro _ _ ⟨_, _, ⟨v, i', q', h1, rfl, rfl⟩, rfl, rfl⟩; exact ⟨v, i', q', h1, rfl, rfl⟩), ?_⟩
    rintro _ _ ⟨o, i6, q6, hi6, rfl, rfl⟩
    refine ⟨rfl, ⟨by omega, by omega⟩, rfl, ?_⟩
    refine ⟨[2], .own 0 0 0 (words k + 1), [.row 0 1 (words k + 1) 3 (ints .i64 fun j => if j = t.toNat then o else packed y k j)], by simp, Nat.zero_le _, .own_eq rfl ⟨_, _, _, _, rfl⟩ ⟨_, _, _, _, rfl⟩ rfl rfl, ⟨⟨fun h => absurd h (Nat.not_lt_zero _), rfl, rfl, rfl, ?_⟩, trivial⟩, words k + 1, words k + 1, _, Nat.le_refl _, by omega, rfl, rfl⟩
    refine fzl_set ⟨.int_eq (by simp), trivial⟩ (fun i hi hne => ⟨.int_eq ?_, trivial⟩)
    have : i ≠ t.toNat := by simpa using hne
    simp [this]
  · refine splitB.mk (fun _ => ?_) (fun _ => ?_)
    · refine ⟨rfl, rfl, by omega, ?_⟩
      refine ⟨[2], .own 0 0 0 (words k + 1 + 1), [.row 0 1 (words k + 1 + 1) 3 (ints .i64 fun j => if j < words k + 1 then packed y k j else 0)], by simp, Nat.zero_le _, .own_eq rfl ⟨_, _, _, _, rfl⟩ ⟨_, _, _, _, rfl⟩ rfl rfl, ⟨⟨fun h => absurd h (Nat.not_lt_zero _), rfl, rfl, rfl, fun j hj => ?_⟩, trivial⟩, words k + 1 + 1, words k + 1 + 1, _, Nat.le_refl _, by omega, rfl, rfl⟩
      dsimp only
      rcases Nat.lt_or_ge j (words k + 1) with hjl | hjl
      · rw [bif_lt hjl]
        exact ⟨.int_eq (by simp [hjl]), trivial⟩
      · rw [bif_ge hjl]
        have : j = words k + 1 := by omega
        subst this
        rw [Nat.sub_self]
        exact ⟨.int_eq (by simp), trivial⟩
    · refine splitB.mk (fun _ => ?_) (fun _ => ?_)
      · refine ⟨rfl, ?_⟩
        have e1 : IntKind.i64.wrap (((words k + 1 : Nat) : Int) + 1) = ((words k + 1 + 1 : Nat) : Int) := by rw [w64] <;> omega
        refine ⟨fun res h => ∃ (v : Int) (i' : Nat) (q' : Int), i' ≤ n ∧ (0 < (IntKind.i64.wrap (((words k + 1 : Nat) : Int) + 1)) → 0 ≤ v ∧ v < (IntKind.i64.wrap (((words k + 1 : Nat) : Int) + 1))) ∧ res = .int .i64 v ∧ h = [cur 0 n z i' q', .row 0 1 k 5 (ints .u8 y), .row 0 1 (words k + 1) 3 (ints .i64 (packed y k))],
          ((l1Below_ok 0 n hn z i4 hi4 q4 (IntKind.i64.wrap (((words k + 1 : Nat) : Int) + 1))).over [0] [cur 0 n z i4 q4, .row 0 1 k 5 (ints .u8 y), .row 0 1 (words k + 1) 3 (ints .i64 (packed y k))] rfl (by simp) (by simp) (by rintro (_ | j) o hj <;> cases hj <;> rfl) rfl).mono (by rintro _ _ ⟨_, _, ⟨v, i', q', h1, h2, rfl, rfl⟩, rfl, rfl⟩; exact ⟨v, i', q', h1, h2, rfl, rfl⟩), ?_⟩
        rintro _ _ ⟨t, i5, q5, hi5, ht, rfl, rfl⟩
        rw [e1] at ht
        obtain ⟨ht0, ht1⟩ := ht (by omega)
        refine ⟨rfl, trivial, ⟨by omega, by omega⟩, ?_⟩
        exact ⟨[2], .own 0 0 0 t.toNat, [.row 0 1 (words k + 1) 3 (ints .i64 (packed y k))], by simp, Nat.zero_le _, .own_eq rfl ⟨_, _, _, _, rfl⟩ ⟨_, _, _, _, rfl⟩ rfl rfl, ⟨⟨fun h => absurd h (Nat.not_lt_zero _), rfl, rfl, rfl, fun j hj => ⟨.int_eq rfl, trivial⟩⟩, trivial⟩, t.toNat, words k + 1, _, by omega, by omega, rfl, rfl⟩
      · exact ⟨[2], .own 0 0 0 (words k + 1), [.row 0 1 (words k + 1) 3 (ints .i64 (packed y k))], by simp, Nat.zero_le _, .own_eq rfl ⟨_, _, _, _, rfl⟩ ⟨_, _, _, _, rfl⟩ rfl rfl, ⟨⟨fun h => absurd h (Nat.not_lt_zero _), rfl, rfl, rfl, fun j hj => ⟨.int_eq rfl, trivial⟩⟩, trivial⟩, words k + 1, words k + 1, _, by omega, by omega, rfl, rfl⟩

theorem sameBytes_ok (n m : Nat) (hnm : n = m) (x y : Nat → Int) (hxy : ∀ i, i < n → x i = y i) : ACall Try.prog 20 [.slc 1 n (ints .u8 x), .slc 1 m (ints .u8 y)] [] (fun res h => res = .bool true ∧ h = []) := by
  subst hnm
  refine ACall.of_vc tab_ok mixed Try.func20 rfl (by kernel_rfl) _ _ _ rfl (by kernel_rfl) ?_
  refine ⟨fun _ _ => rfl, fun _ _ => rfl, ?_⟩
  have he : (List.range n).map (fun i => byteOf (ints .u8 x i)) = (List.range n).map (fun i => byteOf (ints .u8 y i)) := by
    apply List.map_congr_left
    intro i hi
    simp only [ints, hxy i (List.mem_range.1 hi)]
  exact ⟨[], .bool true, [], by simp, Nat.zero_le _, .bool_eq (by rw [he]; simp), trivial, rfl, rfl⟩

theorem sameInts_ok (n m : Nat) (hnm : n = m) (hn : n ≤ 4611686018427387904) (x y : Nat → Int) (hxy : ∀ i, i < n → x i = y i) :
    ACall Try.prog 22 [.slc 1 n (ints .i64 x), .slc 1 m (ints .i64 y)] [] (fun res h => res = .bool true ∧ h = []) := by
  subst hnm
  refine ACall.of_vc tab_ok mixed Try.func22 rfl (by kernel_rfl) _ _ _ rfl (by kernel_rfl) ?_
  refine splitB.mk (fun h => absurd h (by simp)) (fun h => ?_)
  refine LoopVC.mk Nat (fun k => [(0, .slc 1 n (ints .i64 x)), (1, .slc 1 n (ints .i64 y)), (5, .int .i64 k)])
    (fun k => []) (fun k => k ≤ n) (fun k => n - k) 0 (Nat.zero_le _) ?_ (fun k hk => ?_)
  · exact ⟨[], by simp, Nat.zero_le _, ⟨.slc_eq rfl (fun _ _ => rfl), .slc_eq rfl (fun _ _ => rfl), .int_eq rfl, trivial⟩, trivial⟩
  · refine splitB.mk (fun h => ?_) (fun h => ?_)
    · have h := of_decide_eq_true h
      refine ⟨⟨by omega, by omega⟩, ⟨by omega, by omega⟩, splitB.mk (fun hb => ?_) (fun hb => ?_)⟩
      · have := hxy k (by omega)
        simp [this] at hb
      · exact ⟨k + 1, by omega, by omega, [], by simp, Nat.zero_le _, ⟨.slc_eq rfl (fun _ _ => rfl), .slc_eq rfl (fun _ _ => rfl), .int_eq (by rw [w64] <;> omega), trivial⟩, trivial⟩
    · exact ⟨[], .bool true, [], by simp, Nat.zero_le _, .bool _, trivial, rfl, rfl⟩

end Go.Am
