/- Contracts of the two functions PackImage. -/
import Derived.Test.YtkmmhfcmbjlbkaaP1
set_option linter.unusedVariables false
set_option linter.unusedSimpArgs false
namespace Go.Am
open Go Go.RowKit Go.Proofs

/-- The first t bytes from place i on, as a number. -/
def part (z : Nat → Int) (n i : Nat) : Nat → Int
  | 0 => 0
  | t + 1 => part z n i t * 256 + if i + t < n then z (i + t) else 0
/-- The words of an image: its length, then six bytes a word. -/
def packed (z : Nat → Int) (n : Nat) : Nat → Int
  | 0 => n
  | j + 1 => part z n (6 * j) 6
def words (n : Nat) : Nat := (n + 5) / 6

theorem part_lt {z : Nat → Int} (hz : ∀ i, 0 ≤ z i ∧ z i ≤ 255) (n i : Nat) : ∀ t, 0 ≤ part z n i t ∧ part z n i t < 256 ^ t
  | 0 => ⟨Int.le_refl _, by simp [part]⟩
  | t + 1 => by
    obtain ⟨h1, h2⟩ := part_lt hz n i t
    have h3 := hz (i + t)
    have h4 : (256 : Int) ^ (t + 1) = 256 ^ t * 256 := by rw [Int.pow_succ]
    rw [h4]
    simp only [part]
    split <;> omega
theorem part_bd {z : Nat → Int} (hz : ∀ i, 0 ≤ z i ∧ z i ≤ 255) (n i t : Nat) (ht : t ≤ 6) : 0 ≤ part z n i t ∧ part z n i t < 281474976710656 := by
  obtain ⟨h1, h2⟩ := part_lt hz n i t
  refine ⟨h1, Int.lt_of_lt_of_le h2 ?_⟩
  have h3 : (256 : Nat) ^ t ≤ 256 ^ 6 := Nat.pow_le_pow_right (by omega) ht
  have h4 : ((256 ^ t : Nat) : Int) ≤ ((256 ^ 6 : Nat) : Int) := by omega
  simpa using h4

theorem packI_big (n : Nat) (hn : 24000 < n) (f : Nat → List PV) : ACall Try.prog 8 [.slc 1 n f] [] (fun res h => res = .tup [.nils, .bool false] ∧ h = []) := by
  refine ACall.of_vc tab_ok mixed Try.func8 rfl (by kernel_rfl) _ _ _ rfl (by kernel_rfl) ?_
  refine splitB.mk (fun h => ?_) (fun h => ?_)
  · exact ⟨[], .tup [.nils, .bool false], [], by simp, Nat.zero_le _, .tup_l ⟨.nils, .bool _, trivial⟩, trivial, rfl, rfl⟩
  · have h := of_decide_eq_false h; omega

theorem packI_ok (n : Nat) (hn : n ≤ 24000) (z : Nat → Int) (hz : ∀ i, 0 ≤ z i ∧ z i ≤ 255) :
    ACall Try.prog 8 [.slc 1 n (ints .u8 z)] [] (fun res h => res = .tup [.own 0 0 0 (words n + 1), .bool true] ∧ h = [.row 0 1 (words n + 1) 3 (ints .i64 (packed z n))]) := by
  refine ACall.of_vc tab_ok mixed Try.func8 rfl (by kernel_rfl) _ _ _ rfl (by kernel_rfl) ?_
  refine splitB.mk (fun h => ?_) (fun _ => ?_)
  · have h := of_decide_eq_true h; omega
  · refine LoopVC.mk Nat (fun j => [(0, .slc 1 n (ints .u8 z)), (4, .own 0 0 0 (j + 1)), (5, .int .i64 ((6 * j : Nat) : Int))])
      (fun j => [.row 0 1 (j + 1) 3 (ints .i64 (packed z n))]) (fun j => j ≤ words n) (fun j => words n - j) 0 (Nat.zero_le _) ?_ (fun j hj => ?_)
    · refine ⟨[0], by simp, Nat.zero_le _, ⟨.slc_eq rfl (fun _ _ => rfl), .own_eq rfl ⟨_, _, _, _, rfl⟩ ⟨_, _, _, _, rfl⟩ rfl rfl, .int_eq rfl, trivial⟩, ⟨fun h => absurd h (Nat.not_lt_zero _), rfl, rfl, rfl, fun i hi => ?_⟩, trivial⟩
      have : i = 0 := by omega
      subst this
      exact ⟨.int_eq rfl, trivial⟩
    · refine splitB.mk (fun h => ?_) (fun h => ?_)
      · have h := of_decide_eq_true h
        refine LoopVC.mk Nat (fun t => [(0, .slc 1 n (ints .u8 z)), (4, .own 0 0 0 (j + 1)), (5, .int .i64 ((6 * j : Nat) : Int)), (6, .int .i64 (part z n (6 * j) t)), (7, .int .i64 ((6 * j + t : Nat) : Int))])
          (fun t => [.row 0 1 (j + 1) 3 (ints .i64 (packed z n))]) (fun t => t ≤ 6) (fun t => 6 - t) 0 (Nat.zero_le _) ?_ (fun t ht => ?_)
        · exact ⟨[0], by simp, Nat.zero_le _, ⟨.slc_eq rfl (fun _ _ => rfl), .own_eq rfl ⟨_, _, _, _, rfl⟩ ⟨_, _, _, _, rfl⟩ rfl rfl, .int_eq rfl, .int_eq rfl, .int_eq (by simp), trivial⟩, ⟨fun h => absurd h (Nat.not_lt_zero _), rfl, rfl, rfl, fun i hi => ⟨.int_eq rfl, trivial⟩⟩, trivial⟩
        · have hp := part_bd hz n (6 * j) t ht
          refine splitB.mk (fun h1 => ?_) (fun h1 => ?_)
          · have h1 := of_decide_eq_true h1
            rw [w64 (by omega) (by omega)] at h1
            have hzt := hz (6 * j + t)
            refine splitB.mk (fun h2 => ?_) (fun h2 => ?_)
            · have h2 := of_decide_eq_true h2
              refine ⟨⟨by omega, by omega⟩, ?_⟩
              refine ⟨t + 1, by omega, by omega, [0], by simp, Nat.zero_le _, ⟨.slc_eq rfl (fun _ _ => rfl), .own_eq rfl ⟨_, _, _, _, rfl⟩ ⟨_, _, _, _, rfl⟩ rfl rfl, .int_eq rfl, .int_eq ?_, .int_eq ?_, trivial⟩, ⟨fun h => absurd h (Nat.not_lt_zero _), rfl, rfl, rfl, fun i hi => ⟨.int_eq rfl, trivial⟩⟩, trivial⟩
              · simp only [part, Int.toNat_natCast]
                rw [if_pos (by omega), w64 (x := z (6 * j + t)) (by omega) (by omega), w64 (x := part z n (6 * j) t * 256) (by omega) (by omega), w64 (by omega) (by omega)]
              · rw [w64] <;> omega
            · have h2 := of_decide_eq_false h2
              refine ⟨t + 1, by omega, by omega, [0], by simp, Nat.zero_le _, ⟨.slc_eq rfl (fun _ _ => rfl), .own_eq rfl ⟨_, _, _, _, rfl⟩ ⟨_, _, _, _, rfl⟩ rfl rfl, .int_eq rfl, .int_eq ?_, .int_eq ?_, trivial⟩, ⟨fun h => absurd h (Nat.not_lt_zero _), rfl, rfl, rfl, fun i hi => ⟨.int_eq rfl, trivial⟩⟩, trivial⟩
              · simp only [part]
                rw [if_neg (by omega), w64 (by omega) (by omega), Int.add_zero]
              · rw [w64] <;> omega
          · have h1 := of_decide_eq_false h1
            rw [w64 (by omega) (by omega)] at h1
            have ht6 : t = 6 := by omega
            subst ht6
            refine ⟨rfl, rfl, by unfold words at *; omega, ?_⟩
            refine ⟨j + 1, by unfold words; omega, by unfold words at *; omega, [0], by simp, Nat.zero_le _, ⟨.slc_eq rfl (fun _ _ => rfl), .own_eq rfl ⟨_, _, _, _, rfl⟩ ⟨_, _, _, _, rfl⟩ rfl rfl, .int_eq (by rw [w64] <;> omega), trivial⟩, ⟨fun h => absurd h (Nat.not_lt_zero _), rfl, rfl, rfl, ?_⟩, trivial⟩
            intro i hi
            dsimp only
            rcases Nat.lt_or_ge i (j + 1) with hil | hil
            · rw [bif_lt hil]
              exact ⟨.int_eq (by simp), trivial⟩
            · rw [bif_ge hil]
              have : i = j + 1 := by omega
              subst this
              rw [Nat.sub_self]
              exact ⟨.int_eq rfl, trivial⟩
      · have h := of_decide_eq_false h
        have hjw : j = words n := by unfold words at *; omega
        subst hjw
        exact ⟨[0], .tup [.own 0 0 0 (words n + 1), .bool true], [.row 0 1 (words n + 1) 3 (ints .i64 (packed z n))], by simp, Nat.zero_le _, .tup_l ⟨.own_eq rfl ⟨_, _, _, _, rfl⟩ ⟨_, _, _, _, rfl⟩ rfl rfl, .bool _, trivial⟩, ⟨⟨fun h => absurd h (Nat.not_lt_zero _), rfl, rfl, rfl, fun i hi => ⟨.int_eq rfl, trivial⟩⟩, trivial⟩, rfl, rfl⟩

theorem packS_big (n : Nat) (hn : 24000 < n) (f : Nat → List PV) : ACall Try.prog 6 [.slc 1 n f] [] (fun res h => res = .tup [.own 0 0 0 0, .bool false] ∧ h = [.row 0 1 0 3 (ints .i64 fun _ => 0)]) := by
  refine ACall.of_vc tab_ok mixed Try.func6 rfl (by kernel_rfl) _ _ _ rfl (by kernel_rfl) ?_
  refine splitB.mk (fun h => ?_) (fun h => ?_)
  · exact ⟨[0], .tup [.own 0 0 0 0, .bool false], [.row 0 1 0 3 (ints .i64 fun _ => 0)], by simp, Nat.zero_le _, .tup_l ⟨.own_eq rfl ⟨_, _, _, _, rfl⟩ ⟨_, _, _, _, rfl⟩ rfl rfl, .bool _, trivial⟩,
      ⟨⟨fun h => absurd h (Nat.not_lt_zero _), rfl, rfl, rfl, fun i hi => absurd hi (Nat.not_lt_zero _)⟩, trivial⟩, rfl, rfl⟩
  · have h := of_decide_eq_false h; omega

theorem packS_ok (n : Nat) (hn : n ≤ 24000) (z : Nat → Int) (hz : ∀ i, 0 ≤ z i ∧ z i ≤ 255) :
    ACall Try.prog 6 [.slc 1 n (ints .u8 z)] [] (fun res h => res = .tup [.own 0 0 0 (words n + 1), .bool true] ∧ h = [.row 0 1 (words n + 1) 3 (ints .i64 (packed z n))]) := by
  refine ACall.of_vc tab_ok mixed Try.func6 rfl (by kernel_rfl) _ _ _ rfl (by kernel_rfl) ?_
  refine splitB.mk (fun h => ?_) (fun _ => ?_)
  · have h := of_decide_eq_true h; omega
  · refine ⟨rfl, rfl, by omega, ?_⟩
    refine LoopVC.mk Nat (fun j => [(0, .slc 1 n (ints .u8 z)), (4, .own 0 0 0 (j + 1)), (5, .int .i64 ((6 * j : Nat) : Int))])
      (fun j => [.row 0 1 (j + 1) 3 (ints .i64 (packed z n))]) (fun j => j ≤ words n) (fun j => words n - j) 0 (Nat.zero_le _) ?_ (fun j hj => ?_)
    · refine ⟨[0], by simp, Nat.zero_le _, ⟨.slc_eq rfl (fun _ _ => rfl), .own_eq rfl ⟨_, _, _, _, rfl⟩ ⟨_, _, _, _, rfl⟩ rfl rfl, .int_eq rfl, trivial⟩, ⟨fun h => absurd h (Nat.not_lt_zero _), rfl, rfl, rfl, fun i hi => ?_⟩, trivial⟩
      have : i = 0 := by omega
      subst this
      exact ⟨.int_eq rfl, trivial⟩
    · refine splitB.mk (fun h => ?_) (fun h => ?_)
      · have h := of_decide_eq_true h
        refine LoopVC.mk Nat (fun t => [(0, .slc 1 n (ints .u8 z)), (4, .own 0 0 0 (j + 1)), (5, .int .i64 ((6 * j : Nat) : Int)), (6, .int .i64 (part z n (6 * j) t)), (7, .int .i64 (t : Int))])
          (fun t => [.row 0 1 (j + 1) 3 (ints .i64 (packed z n))]) (fun t => t ≤ 6) (fun t => 6 - t) 0 (Nat.zero_le _) ?_ (fun t ht => ?_)
        · exact ⟨[0], by simp, Nat.zero_le _, ⟨.slc_eq rfl (fun _ _ => rfl), .own_eq rfl ⟨_, _, _, _, rfl⟩ ⟨_, _, _, _, rfl⟩ rfl rfl, .int_eq rfl, .int_eq rfl, .int_eq rfl, trivial⟩, ⟨fun h => absurd h (Nat.not_lt_zero _), rfl, rfl, rfl, fun i hi => ⟨.int_eq rfl, trivial⟩⟩, trivial⟩
        · have hp := part_bd hz n (6 * j) t ht
          refine splitB.mk (fun h1 => ?_) (fun h1 => ?_)
          · have h1 := of_decide_eq_true h1
            have hzt := hz (6 * j + t)
            have hw : IntKind.i64.wrap (((6 * j : Nat) : Int) + (t : Int)) = ((6 * j + t : Nat) : Int) := by rw [w64] <;> omega
            refine splitB.mk (fun h2 => ?_) (fun h2 => ?_)
            · have h2 := of_decide_eq_true h2
              rw [hw] at h2
              refine ⟨by rw [hw]; omega, ?_⟩
              refine ⟨t + 1, by omega, by omega, [0], by simp, Nat.zero_le _, ⟨.slc_eq rfl (fun _ _ => rfl), .own_eq rfl ⟨_, _, _, _, rfl⟩ ⟨_, _, _, _, rfl⟩ rfl rfl, .int_eq rfl, .int_eq ?_, .int_eq ?_, trivial⟩, ⟨fun h => absurd h (Nat.not_lt_zero _), rfl, rfl, rfl, fun i hi => ⟨.int_eq rfl, trivial⟩⟩, trivial⟩
              · simp only [part, hw, Int.toNat_natCast]
                rw [if_pos (by omega), w64 (x := z (6 * j + t)) (by omega) (by omega), w64 (x := part z n (6 * j) t * 256) (by omega) (by omega), w64 (by omega) (by omega)]
              · rw [w64] <;> omega
            · have h2 := of_decide_eq_false h2
              rw [hw] at h2
              refine ⟨t + 1, by omega, by omega, [0], by simp, Nat.zero_le _, ⟨.slc_eq rfl (fun _ _ => rfl), .own_eq rfl ⟨_, _, _, _, rfl⟩ ⟨_, _, _, _, rfl⟩ rfl rfl, .int_eq rfl, .int_eq ?_, .int_eq ?_, trivial⟩, ⟨fun h => absurd h (Nat.not_lt_zero _), rfl, rfl, rfl, fun i hi => ⟨.int_eq rfl, trivial⟩⟩, trivial⟩
              · simp only [part]
                rw [if_neg (by omega), w64 (by omega) (by omega), Int.add_zero]
              · rw [w64] <;> omega
          · have h1 := of_decide_eq_false h1
            have ht6 : t = 6 := by omega
            subst ht6
            refine ⟨rfl, rfl, by unfold words at *; omega, ?_⟩
            refine ⟨j + 1, by unfold words; omega, by unfold words at *; omega, [0], by simp, Nat.zero_le _, ⟨.slc_eq rfl (fun _ _ => rfl), .own_eq rfl ⟨_, _, _, _, rfl⟩ ⟨_, _, _, _, rfl⟩ rfl rfl, .int_eq (by rw [w64] <;> omega), trivial⟩, ⟨fun h => absurd h (Nat.not_lt_zero _), rfl, rfl, rfl, ?_⟩, trivial⟩
            intro i hi
            dsimp only
            rcases Nat.lt_or_ge i (j + 1) with hil | hil
            · rw [bif_lt hil]
              exact ⟨.int_eq (by simp), trivial⟩
            · rw [bif_ge hil]
              have : i = j + 1 := by omega
              subst this
              rw [Nat.sub_self]
              exact ⟨.int_eq rfl, trivial⟩
      · have h := of_decide_eq_false h
        have hjw : j = words n := by unfold words at *; omega
        subst hjw
        exact ⟨[0], .tup [.own 0 0 0 (words n + 1), .bool true], [.row 0 1 (words n + 1) 3 (ints .i64 (packed z n))], by simp, Nat.zero_le _, .tup_l ⟨.own_eq rfl ⟨_, _, _, _, rfl⟩ ⟨_, _, _, _, rfl⟩ rfl rfl, .bool _, trivial⟩, ⟨⟨fun h => absurd h (Nat.not_lt_zero _), rfl, rfl, rfl, fun i hi => ⟨.int_eq rfl, trivial⟩⟩, trivial⟩, rfl, rfl⟩

end Go.Am
