/- Contracts of the two functions UnpackImage. -/
import Derived.Test.YtkmmhfcmbjlbkaaP2
set_option linter.unusedVariables false
set_option linter.unusedSimpArgs false
namespace Go.Am
open Go Go.RowKit Go.Proofs

/-- Byte i of the words. -/
def ubyte (x : Nat → Int) (i : Nat) : Int := x (i / 6 + 1) / 256 ^ (5 - i % 6) % 256
def headOk (n : Nat) (x : Nat → Int) : Prop := 0 < n ∧ 0 ≤ x 0 ∧ x 0 ≤ 24000 ∧ (n : Int) = (x 0 + 5) / 6 + 1
def wordOk (v : Int) : Prop := 0 ≤ v ∧ v < 281474976710656
def goodImg (n : Nat) (x : Nat → Int) : Prop := headOk n x ∧ (∀ j, 1 ≤ j → j < n → wordOk (x j)) ∧ ∀ i : Nat, x 0 ≤ i → i < 6 * (n - 1) → ubyte x i = 0

theorem and255 {v : Int} (h0 : 0 ≤ v) (h1 : v < 9223372036854775808) : bits .and .i64 v 255 = v % 256 := by
  obtain ⟨n, rfl⟩ := Int.eq_ofNat_of_zero_le h0
  have e1 : BitVec.ofInt IntKind.i64.bits (n : Int) = BitVec.ofNat 64 n := by apply BitVec.eq_of_toInt_eq; simp [IntKind.bits]
  have e2 : BitVec.ofInt IntKind.i64.bits 255 = BitVec.ofNat 64 255 := by rfl
  have e3 : (BitVec.ofNat 64 n &&& BitVec.ofNat 64 255).toNat = n % 256 := by
    rw [BitVec.toNat_and, BitVec.toNat_ofNat, BitVec.toNat_ofNat, Nat.mod_eq_of_lt (a := n) (by omega)]
    exact Nat.and_two_pow_sub_one_eq_mod n 8
  unfold bits
  simp only [e1, e2]
  show IntKind.i64.wrap ((BitVec.ofNat 64 n &&& BitVec.ofNat 64 255).toNat : Int) = _
  rw [e3, w64 (by omega) (by omega)]
  omega

theorem shr_byte {v : Int} (hv : wordOk v) (t : Nat) (ht : t ≤ 5) : v.fdiv (2 ^ min (IntKind.i64.wrap (8 * (5 - (t : Int)))).toNat 64) = v / 256 ^ (5 - t) := by
  obtain ⟨h0, h1⟩ := hv
  have : t = 0 ∨ t = 1 ∨ t = 2 ∨ t = 3 ∨ t = 4 ∨ t = 5 := by omega
  rw [Int.fdiv_eq_ediv_of_nonneg _ (Int.le_of_lt (Int.pow_pos (by omega)))]
  rw [w64 (by omega) (by omega)]
  rcases this with rfl | rfl | rfl | rfl | rfl | rfl <;> rfl
theorem shr_byte' {v : Int} (hv : wordOk v) (t : Nat) (ht : t ≤ 5) : v.fdiv (2 ^ min (40 - 8 * (t : Int)).toNat 64) = v / 256 ^ (5 - t) := by
  obtain ⟨h0, h1⟩ := hv
  have : t = 0 ∨ t = 1 ∨ t = 2 ∨ t = 3 ∨ t = 4 ∨ t = 5 := by omega
  rw [Int.fdiv_eq_ediv_of_nonneg _ (Int.le_of_lt (Int.pow_pos (by omega)))]
  rcases this with rfl | rfl | rfl | rfl | rfl | rfl <;> rfl
theorem quot_bd {v : Int} (hv : wordOk v) (t : Nat) : 0 ≤ v / 256 ^ t ∧ v / 256 ^ t < 281474976710656 := by
  obtain ⟨h0, h1⟩ := hv
  have hp : (0 : Int) < 256 ^ t := Int.pow_pos (by omega)
  refine ⟨Int.ediv_nonneg h0 (Int.le_of_lt hp), Int.lt_of_le_of_lt (Int.ediv_le_self _ h0) h1⟩

theorem toIntS_ok (n : Nat) (hn : n ≤ 1048576) (z : Nat → Int) :
    ACall Try.prog 15 [.slc 1 n (ints .i64 z)] [] (fun res h => res = .own 0 0 0 n ∧ h = [.row 0 1 n 3 (ints .i64 z)]) := by
  refine ACall.of_vc tab_ok mixed Try.func15 rfl (by kernel_rfl) _ _ _ rfl (by kernel_rfl) ?_
  refine ⟨⟨by omega, by omega, by omega, by simp; omega⟩, ?_⟩
  refine LoopVC.mk Nat (fun k => [(0, .slc 1 n (ints .i64 z)), (3, .own 0 0 0 n), (4, .int .i64 k)])
    (fun k => [.row 0 1 n 3 (ints .i64 fun i => if i < k then z i else 0)]) (fun k => k ≤ n) (fun k => n - k) 0 (Nat.zero_le _) ?_ (fun k hk => ?_)
  · refine ⟨[0], by simp, Nat.zero_le _, ⟨.slc_eq rfl (fun _ _ => rfl), .own_eq rfl ⟨_, _, _, _, rfl⟩ ⟨_, _, _, _, rfl⟩ rfl rfl, .int_eq rfl, trivial⟩, ⟨fun _ => ⟨rfl, rfl⟩, rfl, rfl, rfl, fun i hi => ⟨.int_eq (by simp), trivial⟩⟩, trivial⟩
  · refine splitB.mk (fun h => ?_) (fun h => ?_)
    · have h := of_decide_eq_true h
      refine ⟨⟨by omega, by omega⟩, rfl, ⟨by omega, by omega⟩, rfl, ?_⟩
      refine ⟨k + 1, by omega, by omega, [0], by simp, Nat.zero_le _, ⟨.slc_eq rfl (fun _ _ => rfl), .own_eq rfl ⟨_, _, _, _, rfl⟩ ⟨_, _, _, _, rfl⟩ rfl rfl, .int_eq (by rw [w64] <;> omega), trivial⟩, ⟨fun _ => ⟨rfl, rfl⟩, rfl, rfl, rfl, ?_⟩, trivial⟩
      refine fzl_set ⟨.int_eq (by simp), trivial⟩ (fun i hi hne => ⟨.int_eq ?_, trivial⟩)
      have : i ≠ k := by simpa using hne
      dsimp only
      split <;> split <;> first | rfl | omega
    · have h := of_decide_eq_false h
      have hkn : k = n := by omega
      subst hkn
      refine ⟨[0], .own 0 0 0 k, [.row 0 1 k 3 (ints .i64 z)], by simp, Nat.zero_le _, .own_eq rfl ⟨_, _, _, _, rfl⟩ ⟨_, _, _, _, rfl⟩ rfl rfl, ⟨⟨fun _ => ⟨rfl, rfl⟩, rfl, rfl, rfl, fun i hi => ⟨.int_eq (by simp [hi]), trivial⟩⟩, trivial⟩, rfl, rfl⟩

theorem l1In_ok (x lo hi : Int) : ACall Try.prog 23 [.int .i64 x, .int .i64 lo, .int .i64 hi] [] (fun res h => res = .bool (decide (lo ≤ x) && decide (x ≤ hi)) ∧ h = []) := by
  refine ACall.of_vc tab_ok mixed Try.func23 rfl (by kernel_rfl) _ _ _ rfl (by kernel_rfl) ?_
  refine splitB.mk (fun h => ?_) (fun h => ?_)
  · have h := of_decide_eq_true h
    repeat first | refine splitB.mk (fun h => absurd h (by decide)) (fun _ => ?_) | refine splitB.mk (fun _ => ?_) (fun h => absurd h (by decide))
    exact ⟨[], _, [], by simp, Nat.zero_le _, .bool _, trivial, by simp [show lo ≤ x from h], rfl⟩
  · have h := of_decide_eq_false h
    repeat first | refine splitB.mk (fun h => absurd h (by decide)) (fun _ => ?_) | refine splitB.mk (fun _ => ?_) (fun h => absurd h (by decide))
    exact ⟨[], _, [], by simp, Nat.zero_le _, .bool _, trivial, by simp [show ¬ lo ≤ x from h], rfl⟩
theorem inRange_ok (x lo hi : Int) : ACall Try.prog 24 [.int .i64 x, .int .i64 lo, .int .i64 hi] [] (fun res h => res = .bool (decide (lo ≤ x) && decide (x ≤ hi)) ∧ h = []) := by
  refine ACall.of_vc tab_ok mixed Try.func24 rfl (by kernel_rfl) _ _ _ rfl (by kernel_rfl) ?_
  refine splitB.mk (fun h => ?_) (fun h => ?_)
  · have h := of_decide_eq_true h
    repeat first | refine splitB.mk (fun h => absurd h (by decide)) (fun _ => ?_) | refine splitB.mk (fun _ => ?_) (fun h => absurd h (by decide))
    exact ⟨[], _, [], by simp, Nat.zero_le _, .bool _, trivial, by simp [show lo ≤ x from h], rfl⟩
  · have h := of_decide_eq_false h
    repeat first | refine splitB.mk (fun h => absurd h (by decide)) (fun _ => ?_) | refine splitB.mk (fun _ => ?_) (fun h => absurd h (by decide))
    exact ⟨[], _, [], by simp, Nat.zero_le _, .bool _, trivial, by simp [show ¬ lo ≤ x from h], rfl⟩

end Go.Am
