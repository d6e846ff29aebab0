/- The reference's draws: a cursor over the bytes. -/
import Derived.Test.YtkmmhfcmbjlbkaaP6
set_option linter.unusedVariables false
set_option linter.unusedSimpArgs false
namespace Go.Am
open Go Go.RowKit Go.Proofs

/-- The cursor: its bytes, its place, its number. -/
abbrev cur (g n : Nat) (z : Nat → Int) (i : Nat) (q : Int) : AObj := .row g 3 1 46 (fun _ => [.slc 1 n (ints .u8 z), .int .i64 i, .int .i64 q])

theorem and255_bd (v : Int) : 0 ≤ bits .and .i64 v 255 ∧ bits .and .i64 v 255 ≤ 255 := by
  unfold bits
  have e2 : BitVec.ofInt IntKind.i64.bits 255 = BitVec.ofNat 64 255 := by rfl
  simp only [e2]
  have h : (BitVec.ofInt 64 v &&& BitVec.ofNat 64 255).toNat ≤ 255 := by
    rw [BitVec.toNat_and]
    exact Nat.and_le_right
  show 0 ≤ IntKind.i64.wrap ((BitVec.ofInt 64 v &&& BitVec.ofNat 64 255).toNat : Int) ∧ IntKind.i64.wrap ((BitVec.ofInt 64 v &&& BitVec.ofNat 64 255).toNat : Int) ≤ 255
  rw [w64 (by omega) (by omega)]
  omega

def nextq (q : Int) : Int := IntKind.i64.wrap (IntKind.i64.wrap (q * 6364136223846793005) + 1442695040888963407)

theorem l1Byte_ok (g n : Nat) (hn : n ≤ 1048576) (z : Nat → Int) (i : Nat) (hi : i ≤ n) (q : Int) : ACall Try.prog 31 [.optr 0 g 0 0] [cur g n z i q]
    (fun res h => ∃ (v : Int) (i' : Nat) (q' : Int), 0 ≤ v ∧ v ≤ 255 ∧ i' ≤ n ∧ res = .int .i64 v ∧ h = [cur g n z i' q']) := by
  refine ACall.of_vc tab_ok mixed Try.func31 rfl (by kernel_rfl) _ _ _ rfl (by kernel_rfl) ?_
  refine ⟨rfl, rfl, rfl, rfl, rfl, rfl, ?_⟩
  refine ⟨rfl, rfl, rfl, by decide, rfl, rfl, rfl, by decide, ?_⟩
  refine ⟨rfl, rfl, rfl, rfl, rfl, rfl, ?_⟩
  refine splitB.mk (fun h => ?_) (fun h => ?_)
  · have h := of_decide_eq_true h
    refine ⟨rfl, rfl, rfl, rfl, rfl, rfl, ⟨by omega, by omega⟩, ?_⟩
    refine ⟨rfl, rfl, rfl, rfl, rfl, rfl, ?_⟩
    refine ⟨[0], _, [cur g n z (i + 1) (nextq q)], by simp, by simp, .int_eq rfl, ⟨⟨fun _ => ⟨rfl, rfl⟩, rfl, rfl, rfl, fun j hj => ?_⟩, trivial⟩, ⟨_, i + 1, nextq q, (and255_bd _).1, (and255_bd _).2, by omega, rfl, rfl⟩⟩
    obtain rfl : j = 0 := by omega
    exact ⟨.slc_eq rfl (fun _ _ => rfl), .int_eq (by rw [w64] <;> omega), .int_eq rfl, trivial⟩
  · refine ⟨[0], _, [cur g n z i (nextq q)], by simp, by simp, .int_eq rfl, ⟨⟨fun _ => ⟨rfl, rfl⟩, rfl, rfl, rfl, fun j hj => ?_⟩, trivial⟩, ⟨_, i, nextq q, (and255_bd _).1, (and255_bd _).2, hi, rfl, rfl⟩⟩
    obtain rfl : j = 0 := by omega
    exact ⟨.slc_eq rfl (fun _ _ => rfl), .int_eq rfl, .int_eq rfl, trivial⟩

theorem l1New_ok (n : Nat) (hn : n ≤ 1048576) (z : Nat → Int) : ACall Try.prog 25 [.slc 1 n (ints .u8 z)] [] (fun res h => ∃ q : Int, res = .optr 0 0 0 0 ∧ h = [cur 0 n z 0 q]) := by
  refine ACall.of_vc tab_ok mixed Try.func25 rfl (by kernel_rfl) _ _ _ rfl (by kernel_rfl) ?_
  refine LoopVC.mk (Nat × Int) (fun x => [(0, .slc 1 n (ints .u8 z)), (3, .int .i64 x.2), (4, .int .i64 x.1)]) (fun _ => []) (fun x => x.1 ≤ n) (fun x => n - x.1) (0, IntKind.i64.wrap (193017 + (n : Int))) (Nat.zero_le _) ?_ (fun x hx => ?_)
  · exact ⟨[], by simp, Nat.zero_le _, ⟨.slc_eq rfl (fun _ _ => rfl), .int_eq rfl, .int_eq rfl, trivial⟩, trivial⟩
  · obtain ⟨k, q⟩ := x
    have hx : k ≤ n := hx
    refine splitB.mk (fun h => ?_) (fun h => ?_)
    · have h := of_decide_eq_true h
      have h : k < n := by simpa using h
      refine splitB.mk (fun _ => ?_) (fun h => absurd h (by decide))
      refine splitB.mk (fun _ => ?_) (fun h => absurd h (by decide))
      refine splitB.mk (fun h2 => ?_) (fun h2 => ?_)
      · refine ⟨⟨by simp, by simpa using h⟩, ?_⟩
        refine ⟨(k + 1, _), show k + 1 ≤ n by omega, show n - (k + 1) < n - k by omega, [], by simp, Nat.zero_le _, ⟨.slc_eq rfl (fun _ _ => rfl), .int_eq rfl, .int_eq (by show IntKind.i64.wrap ((k : Int) + 1) = ((k + 1 : Nat) : Int); rw [w64] <;> omega), trivial⟩, trivial⟩
      · refine ⟨[0], .optr 0 0 0 0, [cur 0 n z 0 q], by simp, Nat.zero_le _, .optr_eq rfl ⟨_, _, _, _, rfl⟩ ⟨_, _, _, _, rfl⟩ rfl rfl, ⟨⟨fun h => absurd h (Nat.not_lt_zero _), rfl, rfl, rfl, fun j hj => ⟨.slc_eq rfl (fun _ _ => rfl), .int_eq rfl, .int_eq rfl, trivial⟩⟩, trivial⟩, ⟨q, rfl, rfl⟩⟩
    · refine splitB.mk (fun h => absurd h (by decide)) (fun _ => ?_)
      refine splitB.mk (fun h => absurd h (by decide)) (fun _ => ?_)
      refine splitB.mk (fun h => absurd h (by decide)) (fun _ => ?_)
      refine ⟨[0], .optr 0 0 0 0, [cur 0 n z 0 q], by simp, Nat.zero_le _, .optr_eq rfl ⟨_, _, _, _, rfl⟩ ⟨_, _, _, _, rfl⟩ rfl rfl, ⟨⟨fun h => absurd h (Nat.not_lt_zero _), rfl, rfl, rfl, fun j hj => ⟨.slc_eq rfl (fun _ _ => rfl), .int_eq rfl, .int_eq rfl, trivial⟩⟩, trivial⟩, ⟨q, rfl, rfl⟩⟩

end Go.Am
