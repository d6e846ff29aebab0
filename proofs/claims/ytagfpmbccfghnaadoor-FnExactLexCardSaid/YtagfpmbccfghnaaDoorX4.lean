/- Names: how long the name at the head of a text is. (Printed by gen4.py.) -/
import Derived.Test.YtagfpmbccfghnaaDoorX3
set_option linter.unusedVariables false
set_option linter.unusedSimpArgs false
namespace Go.Am
open Go Go.RowKit Go.Proofs

theorem nameLength_ok (l : List UInt8) (hl : l.length ≤ 4611686018427387904) : ACall Tryd.prog 67 [.str l] [] (fun res h => res = .int .i64 (nameLen l) ∧ h = []) := by
  refine ACall.of_vc tabL_ok mixed Tryd.func67 rfl (by kernel_rfl) _ _ _ rfl (by kernel_rfl) ?_
  have hle := cnt_le pName l 0
  refine LoopVC.mk Nat (fun k => [(0, .str l), (3, .int .i64 k)]) (fun k => []) (fun k => k ≤ nameLen l) (fun k => nameLen l - k) 0 (Nat.zero_le _) ?_ (fun k hk => ?_)
  · exact ⟨[], by simp, Nat.zero_le _, ⟨.str_eq rfl, .int_eq rfl, trivial⟩, trivial⟩
  · have hc := cnt_lt pName l 0 k hk
    have stop : ¬ k < nameLen l → nameLen l = k := fun h => by omega
    refine splitB.mk (fun h8 => ?_) (fun h8 => ?_)
    · have h8 : k < l.length := by have := of_decide_eq_true h8; omega
      iterate 2 refine splitB.mk (fun _ => ?_) (fun h => absurd h (by decide))
      refine ⟨⟨by omega, by omega⟩, ?_⟩
      refine splitB.mk (fun _ => ?_) (fun h => absurd h (by decide))
      refine ⟨_, (isLetter_ok _).frame0 _ rfl (fun _ => rfl), ?_⟩
      rintro _ _ ⟨rfl, rfl⟩
      refine splitB.mk (fun _ => ?_) (fun h => absurd h (by decide))
      refine splitB.mk (fun h13 => ?_) (fun h13 => ?_)
      · refine splitB.mk (fun _ => ?_) (fun h => absurd h (by decide))
        iterate 13 refine splitB.mk (fun _ => ?_) (fun h => absurd h (by decide))
        have hlt : k < nameLen l := hc.2 ⟨h8, by rw [Nat.zero_add]; unfold pName nst; first | (rw [show let_ (l.getD k 0) = true from h13]; rfl) | (rw [decide_eq_true h19]; simp) | (rw [show dig (l.getD k 0) = true from h29, decide_eq_true h22]; simp)⟩
        exact ⟨k + 1, hlt, by simp only; omega, [], by simp, Nat.zero_le _, ⟨.str_eq rfl, .int_eq (by rw [w64] <;> omega), trivial⟩, trivial⟩
      · refine splitB.mk (fun h => absurd h (by decide)) (fun _ => ?_)
        refine splitB.mk (fun h => absurd h (by decide)) (fun _ => ?_)
        refine ⟨⟨by omega, by omega⟩, ?_⟩
        refine splitB.mk (fun h => absurd h (by decide)) (fun _ => ?_)
        refine splitB.mk (fun _ => ?_) (fun h => absurd h (by decide))
        refine splitB.mk (fun h => absurd h (by decide)) (fun _ => ?_)
        refine splitB.mk (fun _ => ?_) (fun h => absurd h (by decide))
        refine splitB.mk (fun h19 => ?_) (fun h19 => ?_)
        · have h19 : (l.getD k 0).toNat = 95 := by have q : (((l.getD k 0).toNat : Nat) : Int) = 95 := eq_of_beq h19; omega
          iterate 7 refine splitB.mk (fun _ => ?_) (fun h => absurd h (by decide))
          have hlt : k < nameLen l := hc.2 ⟨h8, by rw [Nat.zero_add]; unfold pName nst; first | (rw [show let_ (l.getD k 0) = true from h13]; rfl) | (rw [decide_eq_true h19]; simp) | (rw [show dig (l.getD k 0) = true from h29, decide_eq_true h22]; simp)⟩
          exact ⟨k + 1, hlt, by simp only; omega, [], by simp, Nat.zero_le _, ⟨.str_eq rfl, .int_eq (by rw [w64] <;> omega), trivial⟩, trivial⟩
        · have h19 : ¬ (l.getD k 0).toNat = 95 := by have q : (((l.getD k 0).toNat : Nat) : Int) ≠ 95 := ne_of_beq_false h19; omega
          iterate 2 refine splitB.mk (fun h => absurd h (by decide)) (fun _ => ?_)
          refine splitB.mk (fun h22 => ?_) (fun h22 => ?_)
          · have h22 : 0 < k := by have := of_decide_eq_true h22; omega
            iterate 2 refine splitB.mk (fun _ => ?_) (fun h => absurd h (by decide))
            refine ⟨⟨by omega, by omega⟩, ?_⟩
            refine splitB.mk (fun _ => ?_) (fun h => absurd h (by decide))
            refine ⟨_, (isDigit_ok _).frame0 _ rfl (fun _ => rfl), ?_⟩
            rintro _ _ ⟨rfl, rfl⟩
            refine splitB.mk (fun h => absurd h (by decide)) (fun _ => ?_)
            iterate 2 refine splitB.mk (fun _ => ?_) (fun h => absurd h (by decide))
            refine splitB.mk (fun h => absurd h (by decide)) (fun _ => ?_)
            refine splitB.mk (fun _ => ?_) (fun h => absurd h (by decide))
            refine splitB.mk (fun h29 => ?_) (fun h29 => ?_)
            · have hlt : k < nameLen l := hc.2 ⟨h8, by rw [Nat.zero_add]; unfold pName nst; first | (rw [show let_ (l.getD k 0) = true from h13]; rfl) | (rw [decide_eq_true h19]; simp) | (rw [show dig (l.getD k 0) = true from h29, decide_eq_true h22]; simp)⟩
              exact ⟨k + 1, hlt, by simp only; omega, [], by simp, Nat.zero_le _, ⟨.str_eq rfl, .int_eq (by rw [w64] <;> omega), trivial⟩, trivial⟩
            · have hns : ¬ k < nameLen l := fun hlt => by have hq := (hc.1 hlt); first | exact h8 hq.1 | (have hp := hq.2; rw [Nat.zero_add] at hp; unfold pName nst at hp; rw [show let_ (l.getD k 0) = false from h13, decide_eq_false h19] at hp; first | (rw [decide_eq_false h22] at hp; simp at hp) | (rw [show dig (l.getD k 0) = false from h29] at hp; simp at hp))
              exact ⟨[], .int .i64 k, [], by simp, Nat.zero_le _, .int _ _, trivial, by rw [stop hns], rfl⟩
          · have h22 : ¬ 0 < k := by have := of_decide_eq_false h22; omega
            iterate 5 refine splitB.mk (fun h => absurd h (by decide)) (fun _ => ?_)
            refine splitB.mk (fun _ => ?_) (fun h => absurd h (by decide))
            refine splitB.mk (fun h => absurd h (by decide)) (fun _ => ?_)
            refine splitB.mk (fun _ => ?_) (fun h => absurd h (by decide))
            refine splitB.mk (fun h => absurd h (by decide)) (fun _ => ?_)
            have hns : ¬ k < nameLen l := fun hlt => by have hq := (hc.1 hlt); first | exact h8 hq.1 | (have hp := hq.2; rw [Nat.zero_add] at hp; unfold pName nst at hp; rw [show let_ (l.getD k 0) = false from h13, decide_eq_false h19] at hp; first | (rw [decide_eq_false h22] at hp; simp at hp) | (rw [show dig (l.getD k 0) = false from h29] at hp; simp at hp))
            exact ⟨[], .int .i64 k, [], by simp, Nat.zero_le _, .int _ _, trivial, by rw [stop hns], rfl⟩
    · have h8 : ¬ k < l.length := by have := of_decide_eq_false h8; omega
      iterate 9 refine splitB.mk (fun h => absurd h (by decide)) (fun _ => ?_)
      have hns : ¬ k < nameLen l := fun hlt => by have hq := (hc.1 hlt); first | exact h8 hq.1 | (have hp := hq.2; rw [Nat.zero_add] at hp; unfold pName nst at hp; rw [show let_ (l.getD k 0) = false from h13, decide_eq_false h19] at hp; first | (rw [decide_eq_false h22] at hp; simp at hp) | (rw [show dig (l.getD k 0) = false from h29] at hp; simp at hp))
      exact ⟨[], .int .i64 k, [], by simp, Nat.zero_le _, .int _ _, trivial, by rw [stop hns], rfl⟩


theorem getD_drop (l : List UInt8) (a k : Nat) : (l.drop a).getD k 0 = l.getD (a + k) 0 := by
  rw [List.getD_eq_getElem?_getD, List.getD_eq_getElem?_getD, List.getElem?_drop]

/-- The reference's: the name at a place of a text. -/
theorem l14Name_ok (l : List UInt8) (a : Nat) (ha : a ≤ l.length) (hl : l.length ≤ 4611686018427387904) : ACall Tryd.prog 58 [.str l, .int .i64 a] [] (fun res h => res = .int .i64 ((a + nameLen (l.drop a) : Nat) : Int) ∧ h = []) := by
  refine ACall.of_vc tabL_ok mixed Tryd.func58 rfl (by kernel_rfl) _ _ _ rfl (by kernel_rfl) ?_
  have hle := cnt_le pName (l.drop a) 0
  have hdl : (l.drop a).length = l.length - a := by simp
  refine LoopVC.mk Nat (fun k => [(0, .str l), (1, .int .i64 a), (5, .int .i64 ((a + k : Nat) : Int))]) (fun k => []) (fun k => k ≤ nameLen (l.drop a)) (fun k => nameLen (l.drop a) - k) 0 (Nat.zero_le _) ?_ (fun k hk => ?_)
  · exact ⟨[], by simp, Nat.zero_le _, ⟨.str_eq rfl, .int_eq rfl, .int_eq rfl, trivial⟩, trivial⟩
  · have hc := cnt_lt pName (l.drop a) 0 k hk
    rw [getD_drop] at hc
    have stop : ¬ k < nameLen (l.drop a) → nameLen (l.drop a) = k := fun h => by omega
    refine splitB.mk (fun h11 => ?_) (fun h11 => ?_)
    · have h11 : a + k < l.length := by have := of_decide_eq_true h11; omega
      iterate 2 refine splitB.mk (fun _ => ?_) (fun h => absurd h (by decide))
      refine ⟨⟨by omega, by omega⟩, ?_⟩
      refine splitB.mk (fun _ => ?_) (fun h => absurd h (by decide))
      refine ⟨_, (l14Letter_ok _).frame0 _ rfl (fun _ => rfl), ?_⟩
      rintro _ _ ⟨rfl, rfl⟩
      refine splitB.mk (fun _ => ?_) (fun h => absurd h (by decide))
      refine splitB.mk (fun h16 => ?_) (fun h16 => ?_)
      · refine splitB.mk (fun _ => ?_) (fun h => absurd h (by decide))
        iterate 7 refine splitB.mk (fun _ => ?_) (fun h => absurd h (by decide))
        have hlt : k < nameLen (l.drop a) := hc.2 ⟨by omega, by rw [Nat.zero_add]; unfold pName; first | (rw [show nst (l.getD (a + k) 0) = true from h16]; rfl) | (rw [show dig (l.getD (a + k) 0) = true from h27, decide_eq_true h20]; simp)⟩
        exact ⟨k + 1, hlt, by simp only; omega, [], by simp, Nat.zero_le _, ⟨.str_eq rfl, .int_eq rfl, .int_eq (by rw [w64] <;> omega), trivial⟩, trivial⟩
      · refine splitB.mk (fun h => absurd h (by decide)) (fun _ => ?_)
        iterate 2 refine splitB.mk (fun h => absurd h (by decide)) (fun _ => ?_)
        refine splitB.mk (fun h20 => ?_) (fun h20 => ?_)
        · have h20 : 0 < k := by have := of_decide_eq_true h20; omega
          iterate 2 refine splitB.mk (fun _ => ?_) (fun h => absurd h (by decide))
          refine ⟨⟨by omega, by omega⟩, ?_⟩
          refine splitB.mk (fun _ => ?_) (fun h => absurd h (by decide))
          refine ⟨_, (l14Digit_ok _).frame0 _ rfl (fun _ => rfl), ?_⟩
          rintro _ _ ⟨rfl, rfl⟩
          refine splitB.mk (fun h => absurd h (by decide)) (fun _ => ?_)
          iterate 2 refine splitB.mk (fun _ => ?_) (fun h => absurd h (by decide))
          refine splitB.mk (fun h => absurd h (by decide)) (fun _ => ?_)
          refine splitB.mk (fun _ => ?_) (fun h => absurd h (by decide))
          refine splitB.mk (fun h27 => ?_) (fun h27 => ?_)
          · have hlt : k < nameLen (l.drop a) := hc.2 ⟨by omega, by rw [Nat.zero_add]; unfold pName; first | (rw [show nst (l.getD (a + k) 0) = true from h16]; rfl) | (rw [show dig (l.getD (a + k) 0) = true from h27, decide_eq_true h20]; simp)⟩
            exact ⟨k + 1, hlt, by simp only; omega, [], by simp, Nat.zero_le _, ⟨.str_eq rfl, .int_eq rfl, .int_eq (by rw [w64] <;> omega), trivial⟩, trivial⟩
          · have hns : ¬ k < nameLen (l.drop a) := fun hlt => by have hq := (hc.1 hlt); first | exact h11 (by have := hq.1; omega) | (have hp := hq.2; rw [Nat.zero_add] at hp; unfold pName at hp; rw [show nst (l.getD (a + k) 0) = false from h16] at hp; first | (rw [decide_eq_false h20] at hp; simp at hp) | (rw [show dig (l.getD (a + k) 0) = false from h27] at hp; simp at hp))
            exact ⟨[], .int .i64 ((a + k : Nat) : Int), [], by simp, Nat.zero_le _, .int _ _, trivial, by rw [stop hns], rfl⟩
        · have h20 : ¬ 0 < k := by have := of_decide_eq_false h20; omega
          iterate 5 refine splitB.mk (fun h => absurd h (by decide)) (fun _ => ?_)
          refine splitB.mk (fun _ => ?_) (fun h => absurd h (by decide))
          refine splitB.mk (fun h => absurd h (by decide)) (fun _ => ?_)
          refine splitB.mk (fun _ => ?_) (fun h => absurd h (by decide))
          refine splitB.mk (fun h => absurd h (by decide)) (fun _ => ?_)
          have hns : ¬ k < nameLen (l.drop a) := fun hlt => by have hq := (hc.1 hlt); first | exact h11 (by have := hq.1; omega) | (have hp := hq.2; rw [Nat.zero_add] at hp; unfold pName at hp; rw [show nst (l.getD (a + k) 0) = false from h16] at hp; first | (rw [decide_eq_false h20] at hp; simp at hp) | (rw [show dig (l.getD (a + k) 0) = false from h27] at hp; simp at hp))
          exact ⟨[], .int .i64 ((a + k : Nat) : Int), [], by simp, Nat.zero_le _, .int _ _, trivial, by rw [stop hns], rfl⟩
    · have h11 : ¬ a + k < l.length := by have := of_decide_eq_false h11; omega
      iterate 7 refine splitB.mk (fun h => absurd h (by decide)) (fun _ => ?_)
      have hns : ¬ k < nameLen (l.drop a) := fun hlt => by have hq := (hc.1 hlt); first | exact h11 (by have := hq.1; omega) | (have hp := hq.2; rw [Nat.zero_add] at hp; unfold pName at hp; rw [show nst (l.getD (a + k) 0) = false from h16] at hp; first | (rw [decide_eq_false h20] at hp; simp at hp) | (rw [show dig (l.getD (a + k) 0) = false from h27] at hp; simp at hp))
      exact ⟨[], .int .i64 ((a + k : Nat) : Int), [], by simp, Nat.zero_le _, .int _ _, trivial, by rw [stop hns], rfl⟩

end Go.Am
