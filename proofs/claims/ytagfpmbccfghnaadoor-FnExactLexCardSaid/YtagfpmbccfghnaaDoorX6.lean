/- A quoted text. (Printed by gen6.py.) -/
import Derived.Test.YtagfpmbccfghnaaDoorX5
set_option linter.unusedVariables false
set_option linter.unusedSimpArgs false
namespace Go.Am
open Go Go.RowKit Go.Proofs

theorem rowStep {h η : List AObj} {k : List Nat} (acc : List UInt8) (c : UInt8) (q : Nat → List PV) (hq : q 0 = [.int .u8 c.toNat] := by rfl) : ∀ j, j < acc.length + 1 → FzL h η k (bif Nat.blt j acc.length then bcell acc (0 + j) else q (0 + (j - acc.length))) (bcell (acc ++ [c]) j) := fun j hj => by
  have et := bcell_snoc acc c j hj
  by_cases hil : j < acc.length
  · have e : Nat.blt j acc.length = true := by simpa [Nat.blt_eq] using hil
    rw [if_pos hil] at et
    simp only [e, cond_true, Nat.zero_add]
    exact ⟨.int_eq (by rw [et]), trivial⟩
  · have e : Nat.blt j acc.length = false := by
      cases hb : Nat.blt j acc.length with
      | false => rfl
      | true => exact absurd (Nat.le_of_ble_eq_true hb) (by omega)
    have e2 : j - acc.length = 0 := by omega
    rw [if_neg hil] at et
    simp only [e, cond_false, e2, Nat.zero_add, hq]
    exact ⟨.int_eq (by rw [et]), trivial⟩

theorem textNil (s : List UInt8) (pos : Int) (hn : ([] : List Tk).length ≤ 1000000) (rest : List UInt8) (hl : rest.length ≤ 100000) :
    ACall Tryd.prog 70 [.optr 0 0 0 0, .str rest] (LH s pos 0 []) (fun _ h => h = textH s pos [] (strGo (rest.drop 1) [] 1)) := by
  obtain ⟨R, hR⟩ : ∃ R, strGo (rest.drop 1) [] 1 = R := ⟨_, rfl⟩
  rw [hR]
  refine ACall.of_vc tabL_ok mixed Tryd.func70 rfl (by kernel_rfl) _ _ _ rfl (by kernel_rfl) ?_
  refine LoopVC.mk (List UInt8 × Nat) (fun x => [(0, .optr 0 0 0 0), (1, .str rest), (4, .own 1 0 0 x.1.length), (5, .int .i64 x.2)]) (fun x => [lexO s pos .nils 0, .row 0 1 x.1.length 5 (bcell x.1)])
    (fun x => strGo (rest.drop x.2) x.1 x.2 = R ∧ x.1.length ≤ x.2 ∧ x.2 ≤ rest.length + 1) (fun x => rest.length + 1 - x.2) ([], 1) ⟨hR, by simp, by simp⟩ ?_ (fun x hx => ?_)
  · exact ⟨[0, 1], by simp, (show 1 ≤ 2 by decide), ⟨.optr_eq rfl ⟨_, _, _, _, rfl⟩ ⟨_, _, _, _, rfl⟩ rfl rfl, .str_eq rfl, .own_eq rfl ⟨_, _, _, _, rfl⟩ ⟨_, _, _, _, rfl⟩ rfl rfl, .int_eq rfl, trivial⟩, ⟨⟨fun _ => ⟨rfl, rfl⟩, rfl, rfl, rfl, fun i hi => by obtain rfl : i = 0 := (by omega); exact ⟨.str_eq rfl, .int_eq rfl, .nils, .int_eq rfl, trivial⟩⟩, ⟨fun h => absurd (show 1 < 1 from h) (by decide), rfl, rfl, rfl, fun i hi => absurd hi (Nat.not_lt_zero _)⟩, trivial⟩⟩
  · obtain ⟨acc, i⟩ := x
    obtain ⟨hg, ha, hi⟩ := hx
    simp only at hg ha hi
    refine splitB.mk (fun h10 => ?_) (fun h10 => ?_)
    · have h10 : i < rest.length := by have := of_decide_eq_true h10; simp only at this; omega
      refine ⟨⟨by simp only; omega, by simp only; omega⟩, ?_⟩
      refine splitB.mk (fun h16 => ?_) (fun h16 => ?_)
      · have h16 : (rest.getD i 0).toNat = 39 := by have q : (((rest.getD i 0).toNat : Nat) : Int) = 39 := eq_of_beq h16; omega
        rw [strGo_quote h10 h16] at hg
        refine ⟨rfl, ?_⟩
        refine splitB.mk (fun h19 => ?_) (fun h19 => ?_)
        · have h19 : 400 < acc.length := by have := of_decide_eq_true h19; simp only at this; omega
          rw [if_pos h19] at hg
          refine ⟨rfl, rfl, rfl, ?_⟩
          subst hg
          exact ⟨[0], .junk, LH s pos 3 [], by simp, (show 1 ≤ 1 by decide), .junk _, ⟨⟨fun _ => ⟨rfl, rfl⟩, rfl, rfl, rfl, fun i hi => by obtain rfl : i = 0 := (by omega); exact ⟨.str_eq rfl, .int_eq rfl, .nils, .int_eq rfl, trivial⟩⟩, trivial⟩, rfl⟩
        · have h19 : ¬ 400 < acc.length := by have := of_decide_eq_false h19; simp only at this; omega
          rw [if_neg h19] at hg
          subst hg
          refine ⟨rfl, fun i hi => rfl, ?_⟩
          have e1 : IntKind.i64.wrap ((i : Int) + 1) = ((i + 1 : Nat) : Int) := by rw [w64] <;> omega
          have ca : ACall Tryd.prog 65 [.optr 0 0 0 0, .int .i64 5, .int .i64 0, .str ((List.range acc.length).map fun j => byteOf (bcell acc (0 + j))), .int .i64 (IntKind.i64.wrap ((i : Int) + 1))] (LH s pos 0 []) (fun _ h => h = textH s pos [] (some (acc, i + 1))) :=
            (add_ok s pos 0 5 0 (IntKind.i64.wrap ((i : Int) + 1)) ((List.range acc.length).map fun j => byteOf (bcell acc (0 + j))) [] hn).mono (by rintro _ _ rfl; rw [bytes_row, e1]; rfl)
          refine ⟨_, ca.over [0] [lexO s pos .nils 0, .row 0 1 acc.length 5 (bcell acc)] rfl (by simp) (by simp) (by rintro (_ | _ | j) o hj <;> cases hj <;> rfl) rfl, ?_⟩
          rintro _ _ ⟨_, _, rfl, rfl, rfl⟩
          exact ⟨[0, 2], .junk, textH s pos [] (some (acc, i + 1)), by simp, (show 1 ≤ 2 by decide), .junk _, ⟨⟨fun _ => ⟨rfl, rfl⟩, rfl, rfl, rfl, fun i hi => by obtain rfl : i = 0 := (by omega); exact ⟨.str_eq rfl, .int_eq rfl, .own_eq rfl ⟨_, _, _, _, rfl⟩ ⟨_, _, _, _, rfl⟩ rfl rfl, .int_eq rfl, trivial⟩⟩, ⟨fun h => absurd (show 1 < 1 from h) (by decide), rfl, rfl, rfl, fun i hi => ⟨.int_eq rfl, .int_eq rfl, .str_eq rfl, .int_eq rfl, trivial⟩⟩, trivial⟩, rfl⟩
      · have h16 : ¬ (rest.getD i 0).toNat = 39 := by have q : (((rest.getD i 0).toNat : Nat) : Int) ≠ 39 := ne_of_beq_false h16; omega
        have e1 : IntKind.i64.wrap ((i : Int) + 1) = ((i + 1 : Nat) : Int) := by rw [w64] <;> omega
        refine ⟨⟨by first | omega | (simp only; omega), by first | omega | (simp only; omega)⟩, ?_⟩
        refine splitB.mk (fun h30 => ?_) (fun h30 => ?_)
        · have h30 : (rest.getD i 0).toNat = 92 := by have q : (((rest.getD i 0).toNat : Nat) : Int) = 92 := eq_of_beq h30; omega
          iterate 5 refine splitB.mk (fun _ => ?_) (fun h => absurd h (by decide))
          refine splitB.mk (fun h37 => ?_) (fun h37 => ?_)
          · have hi1 : i + 1 < rest.length := by have q := of_decide_eq_true h37; rw [e1] at q; omega
            iterate 3 refine splitB.mk (fun _ => ?_) (fun h => absurd h (by decide))
            refine ⟨⟨by first | omega | (simp only; omega), by first | omega | (simp only; omega)⟩, ?_⟩
            iterate 2 refine splitB.mk (fun _ => ?_) (fun h => absurd h (by decide))
            refine splitB.mk (fun h43 => ?_) (fun h43 => ?_)
            · have h43 : (rest.getD (i + 1) 0).toNat = 39 := by have q : (((rest.getD (i + 1) 0).toNat : Nat) : Int) = 39 := (by have q := eq_of_beq h43; rw [e1] at q; exact q); omega
              iterate 8 refine splitB.mk (fun _ => ?_) (fun h => absurd h (by decide))
              have hd : (rest.getD (i + 1) 0).toNat = 39 ∨ (rest.getD (i + 1) 0).toNat = 92 := by first | exact .inl h43 | exact .inr h50
              have hg2 := hg
              rw [strGo_esc hi1 h16 h30 hd] at hg2
              refine ⟨⟨by rw [e1]; omega, by rw [e1]; omega⟩, ?_⟩
              refine ⟨rfl, rfl, by simp only; omega, ?_⟩
              exact ⟨(acc ++ [rest.getD (i + 1) 0], i + 2), ⟨hg2, by simp; omega, by simp only; omega⟩, by simp only; omega, [0, 1], by simp, (show 1 ≤ 2 by decide), ⟨.optr_eq rfl ⟨_, _, _, _, rfl⟩ ⟨_, _, _, _, rfl⟩ rfl rfl, .str_eq rfl, .own_eq rfl ⟨_, _, _, _, rfl⟩ ⟨_, _, _, _, rfl⟩ rfl (by simp), .int_eq (by rw [e1, w64] <;> omega), trivial⟩, ⟨⟨fun _ => ⟨rfl, rfl⟩, rfl, rfl, rfl, fun i hi => by obtain rfl : i = 0 := (by omega); exact ⟨.str_eq rfl, .int_eq rfl, .nils, .int_eq rfl, trivial⟩⟩, ⟨fun h => absurd (show 1 < 1 from h) (by decide), rfl, by simp, rfl, rowStep acc _ _ (by show [PV.int .u8 (((rest.getD (IntKind.i64.wrap ((i : Int) + 1)).toNat 0).toNat : Nat) : Int)] = _; rw [e1]; rfl)⟩, trivial⟩⟩
            · have h43 : ¬ (rest.getD (i + 1) 0).toNat = 39 := by have q : (((rest.getD (i + 1) 0).toNat : Nat) : Int) ≠ 39 := (by have q := ne_of_beq_false h43; rw [e1] at q; exact q); omega
              iterate 3 refine splitB.mk (fun h => absurd h (by decide)) (fun _ => ?_)
              refine ⟨⟨by first | omega | (simp only; omega), by first | omega | (simp only; omega)⟩, ?_⟩
              refine splitB.mk (fun h => absurd h (by decide)) (fun _ => ?_)
              refine splitB.mk (fun _ => ?_) (fun h => absurd h (by decide))
              refine splitB.mk (fun h => absurd h (by decide)) (fun _ => ?_)
              refine splitB.mk (fun _ => ?_) (fun h => absurd h (by decide))
              refine splitB.mk (fun h50 => ?_) (fun h50 => ?_)
              · have h50 : (rest.getD (i + 1) 0).toNat = 92 := by have q : (((rest.getD (i + 1) 0).toNat : Nat) : Int) = 92 := (by have q := eq_of_beq h50; rw [e1] at q; exact q); omega
                have hd : (rest.getD (i + 1) 0).toNat = 39 ∨ (rest.getD (i + 1) 0).toNat = 92 := by first | exact .inl h43 | exact .inr h50
                have hg2 := hg
                rw [strGo_esc hi1 h16 h30 hd] at hg2
                refine ⟨⟨by rw [e1]; omega, by rw [e1]; omega⟩, ?_⟩
                refine ⟨rfl, rfl, by simp only; omega, ?_⟩
                exact ⟨(acc ++ [rest.getD (i + 1) 0], i + 2), ⟨hg2, by simp; omega, by simp only; omega⟩, by simp only; omega, [0, 1], by simp, (show 1 ≤ 2 by decide), ⟨.optr_eq rfl ⟨_, _, _, _, rfl⟩ ⟨_, _, _, _, rfl⟩ rfl rfl, .str_eq rfl, .own_eq rfl ⟨_, _, _, _, rfl⟩ ⟨_, _, _, _, rfl⟩ rfl (by simp), .int_eq (by rw [e1, w64] <;> omega), trivial⟩, ⟨⟨fun _ => ⟨rfl, rfl⟩, rfl, rfl, rfl, fun i hi => by obtain rfl : i = 0 := (by omega); exact ⟨.str_eq rfl, .int_eq rfl, .nils, .int_eq rfl, trivial⟩⟩, ⟨fun h => absurd (show 1 < 1 from h) (by decide), rfl, by simp, rfl, rowStep acc _ _ (by show [PV.int .u8 (((rest.getD (IntKind.i64.wrap ((i : Int) + 1)).toNat 0).toNat : Nat) : Int)] = _; rw [e1]; rfl)⟩, trivial⟩⟩
              · have h50 : ¬ (rest.getD (i + 1) 0).toNat = 92 := by have q : (((rest.getD (i + 1) 0).toNat : Nat) : Int) ≠ 92 := (by have q := ne_of_beq_false h50; rw [e1] at q; exact q); omega
                have hb : ¬ ((rest.getD i 0).toNat = 92 ∧ i + 1 < rest.length ∧ ((rest.getD (i + 1) 0).toNat = 39 ∨ (rest.getD (i + 1) 0).toNat = 92)) := by first | exact fun hx => h30 hx.1 | exact fun hx => hi1 hx.2.1 | exact fun hx => hx.2.2.elim h43 h50
                have hg2 := hg
                rw [strGo_step h10 h16 hb] at hg2
                refine ⟨⟨by simp only; omega, by simp only; omega⟩, ?_⟩
                refine ⟨rfl, rfl, by simp only; omega, ?_⟩
                exact ⟨(acc ++ [rest.getD i 0], i + 1), ⟨hg2, by simp; omega, by simp only; omega⟩, by simp only; omega, [0, 1], by simp, (show 1 ≤ 2 by decide), ⟨.optr_eq rfl ⟨_, _, _, _, rfl⟩ ⟨_, _, _, _, rfl⟩ rfl rfl, .str_eq rfl, .own_eq rfl ⟨_, _, _, _, rfl⟩ ⟨_, _, _, _, rfl⟩ rfl (by simp), .int_eq (by rw [w64] <;> omega), trivial⟩, ⟨⟨fun _ => ⟨rfl, rfl⟩, rfl, rfl, rfl, fun i hi => by obtain rfl : i = 0 := (by omega); exact ⟨.str_eq rfl, .int_eq rfl, .nils, .int_eq rfl, trivial⟩⟩, ⟨fun h => absurd (show 1 < 1 from h) (by decide), rfl, by simp, rfl, rowStep acc _ _⟩, trivial⟩⟩
          · have hi1 : ¬ i + 1 < rest.length := by have q := of_decide_eq_false h37; rw [e1] at q; omega
            iterate 8 refine splitB.mk (fun h => absurd h (by decide)) (fun _ => ?_)
            have hb : ¬ ((rest.getD i 0).toNat = 92 ∧ i + 1 < rest.length ∧ ((rest.getD (i + 1) 0).toNat = 39 ∨ (rest.getD (i + 1) 0).toNat = 92)) := by first | exact fun hx => h30 hx.1 | exact fun hx => hi1 hx.2.1 | exact fun hx => hx.2.2.elim h43 h50
            have hg2 := hg
            rw [strGo_step h10 h16 hb] at hg2
            refine ⟨⟨by simp only; omega, by simp only; omega⟩, ?_⟩
            refine ⟨rfl, rfl, by simp only; omega, ?_⟩
            exact ⟨(acc ++ [rest.getD i 0], i + 1), ⟨hg2, by simp; omega, by simp only; omega⟩, by simp only; omega, [0, 1], by simp, (show 1 ≤ 2 by decide), ⟨.optr_eq rfl ⟨_, _, _, _, rfl⟩ ⟨_, _, _, _, rfl⟩ rfl rfl, .str_eq rfl, .own_eq rfl ⟨_, _, _, _, rfl⟩ ⟨_, _, _, _, rfl⟩ rfl (by simp), .int_eq (by rw [w64] <;> omega), trivial⟩, ⟨⟨fun _ => ⟨rfl, rfl⟩, rfl, rfl, rfl, fun i hi => by obtain rfl : i = 0 := (by omega); exact ⟨.str_eq rfl, .int_eq rfl, .nils, .int_eq rfl, trivial⟩⟩, ⟨fun h => absurd (show 1 < 1 from h) (by decide), rfl, by simp, rfl, rowStep acc _ _⟩, trivial⟩⟩
        · have h30 : ¬ (rest.getD i 0).toNat = 92 := by have q : (((rest.getD i 0).toNat : Nat) : Int) ≠ 92 := ne_of_beq_false h30; omega
          iterate 14 refine splitB.mk (fun h => absurd h (by decide)) (fun _ => ?_)
          have hb : ¬ ((rest.getD i 0).toNat = 92 ∧ i + 1 < rest.length ∧ ((rest.getD (i + 1) 0).toNat = 39 ∨ (rest.getD (i + 1) 0).toNat = 92)) := by first | exact fun hx => h30 hx.1 | exact fun hx => hi1 hx.2.1 | exact fun hx => hx.2.2.elim h43 h50
          have hg2 := hg
          rw [strGo_step h10 h16 hb] at hg2
          refine ⟨⟨by simp only; omega, by simp only; omega⟩, ?_⟩
          refine ⟨rfl, rfl, by simp only; omega, ?_⟩
          exact ⟨(acc ++ [rest.getD i 0], i + 1), ⟨hg2, by simp; omega, by simp only; omega⟩, by simp only; omega, [0, 1], by simp, (show 1 ≤ 2 by decide), ⟨.optr_eq rfl ⟨_, _, _, _, rfl⟩ ⟨_, _, _, _, rfl⟩ rfl rfl, .str_eq rfl, .own_eq rfl ⟨_, _, _, _, rfl⟩ ⟨_, _, _, _, rfl⟩ rfl (by simp), .int_eq (by rw [w64] <;> omega), trivial⟩, ⟨⟨fun _ => ⟨rfl, rfl⟩, rfl, rfl, rfl, fun i hi => by obtain rfl : i = 0 := (by omega); exact ⟨.str_eq rfl, .int_eq rfl, .nils, .int_eq rfl, trivial⟩⟩, ⟨fun h => absurd (show 1 < 1 from h) (by decide), rfl, by simp, rfl, rowStep acc _ _⟩, trivial⟩⟩
    · have h10 : ¬ i < rest.length := by have := of_decide_eq_false h10; simp only at this; omega
      rw [strGo_end h10] at hg
      refine ⟨rfl, rfl, rfl, ?_⟩
      subst hg
      exact ⟨[0], .junk, LH s pos 3 [], by simp, (show 1 ≤ 1 by decide), .junk _, ⟨⟨fun _ => ⟨rfl, rfl⟩, rfl, rfl, rfl, fun i hi => by obtain rfl : i = 0 := (by omega); exact ⟨.str_eq rfl, .int_eq rfl, .nils, .int_eq rfl, trivial⟩⟩, trivial⟩, rfl⟩

theorem textCons (s : List UInt8) (pos : Int) (t : Tk) (ts : List Tk) (hn : ((t :: ts) : List Tk).length ≤ 1000000) (rest : List UInt8) (hl : rest.length ≤ 100000) :
    ACall Tryd.prog 70 [.optr 0 0 0 0, .str rest] (LH s pos 0 (t :: ts)) (fun _ h => h = textH s pos (t :: ts) (strGo (rest.drop 1) [] 1)) := by
  obtain ⟨R, hR⟩ : ∃ R, strGo (rest.drop 1) [] 1 = R := ⟨_, rfl⟩
  rw [hR]
  refine ACall.of_vc tabL_ok mixed Tryd.func70 rfl (by kernel_rfl) _ _ _ rfl (by kernel_rfl) ?_
  refine LoopVC.mk (List UInt8 × Nat) (fun x => [(0, .optr 0 0 0 0), (1, .str rest), (4, .own 2 0 0 x.1.length), (5, .int .i64 x.2)]) (fun x => [lexO s pos (.own 1 ts.length 0 (ts.length + 1)) 0, .row ts.length 4 (ts.length + 1) 33 (fun i => (tkAt (t :: ts) i).cells), .row 0 1 x.1.length 5 (bcell x.1)])
    (fun x => strGo (rest.drop x.2) x.1 x.2 = R ∧ x.1.length ≤ x.2 ∧ x.2 ≤ rest.length + 1) (fun x => rest.length + 1 - x.2) ([], 1) ⟨hR, by simp, by simp⟩ ?_ (fun x hx => ?_)
  · exact ⟨[0, 1, 2], by simp, (show 2 ≤ 3 by decide), ⟨.optr_eq rfl ⟨_, _, _, _, rfl⟩ ⟨_, _, _, _, rfl⟩ rfl rfl, .str_eq rfl, .own_eq rfl ⟨_, _, _, _, rfl⟩ ⟨_, _, _, _, rfl⟩ rfl rfl, .int_eq rfl, trivial⟩, ⟨⟨fun _ => ⟨rfl, rfl⟩, rfl, rfl, rfl, fun i hi => by obtain rfl : i = 0 := (by omega); exact ⟨.str_eq rfl, .int_eq rfl, .own_eq rfl ⟨_, _, _, _, rfl⟩ ⟨_, _, _, _, rfl⟩ rfl rfl, .int_eq rfl, trivial⟩⟩, ⟨fun _ => ⟨rfl, rfl⟩, rfl, rfl, rfl, fun i hi => ⟨.int_eq rfl, .int_eq rfl, .str_eq rfl, .int_eq rfl, trivial⟩⟩, ⟨fun h => absurd (show 2 < 2 from h) (by decide), rfl, rfl, rfl, fun i hi => absurd hi (Nat.not_lt_zero _)⟩, trivial⟩⟩
  · obtain ⟨acc, i⟩ := x
    obtain ⟨hg, ha, hi⟩ := hx
    simp only at hg ha hi
    refine splitB.mk (fun h10 => ?_) (fun h10 => ?_)
    · have h10 : i < rest.length := by have := of_decide_eq_true h10; simp only at this; omega
      refine ⟨⟨by simp only; omega, by simp only; omega⟩, ?_⟩
      refine splitB.mk (fun h16 => ?_) (fun h16 => ?_)
      · have h16 : (rest.getD i 0).toNat = 39 := by have q : (((rest.getD i 0).toNat : Nat) : Int) = 39 := eq_of_beq h16; omega
        rw [strGo_quote h10 h16] at hg
        refine ⟨rfl, ?_⟩
        refine splitB.mk (fun h19 => ?_) (fun h19 => ?_)
        · have h19 : 400 < acc.length := by have := of_decide_eq_true h19; simp only at this; omega
          rw [if_pos h19] at hg
          refine ⟨rfl, rfl, rfl, ?_⟩
          subst hg
          exact ⟨[0, 1], .junk, LH s pos 3 (t :: ts), by simp, (show 2 ≤ 2 by decide), .junk _, ⟨⟨fun _ => ⟨rfl, rfl⟩, rfl, rfl, rfl, fun i hi => by obtain rfl : i = 0 := (by omega); exact ⟨.str_eq rfl, .int_eq rfl, .own_eq rfl ⟨_, _, _, _, rfl⟩ ⟨_, _, _, _, rfl⟩ rfl rfl, .int_eq rfl, trivial⟩⟩, ⟨fun _ => ⟨rfl, rfl⟩, rfl, rfl, rfl, fun i hi => ⟨.int_eq rfl, .int_eq rfl, .str_eq rfl, .int_eq rfl, trivial⟩⟩, trivial⟩, rfl⟩
        · have h19 : ¬ 400 < acc.length := by have := of_decide_eq_false h19; simp only at this; omega
          rw [if_neg h19] at hg
          subst hg
          refine ⟨rfl, fun i hi => rfl, ?_⟩
          have e1 : IntKind.i64.wrap ((i : Int) + 1) = ((i + 1 : Nat) : Int) := by rw [w64] <;> omega
          have ca : ACall Tryd.prog 65 [.optr 0 0 0 0, .int .i64 5, .int .i64 0, .str ((List.range acc.length).map fun j => byteOf (bcell acc (0 + j))), .int .i64 (IntKind.i64.wrap ((i : Int) + 1))] (LH s pos 0 (t :: ts)) (fun _ h => h = textH s pos (t :: ts) (some (acc, i + 1))) :=
            (add_ok s pos 0 5 0 (IntKind.i64.wrap ((i : Int) + 1)) ((List.range acc.length).map fun j => byteOf (bcell acc (0 + j))) (t :: ts) hn).mono (by rintro _ _ rfl; rw [bytes_row, e1]; rfl)
          refine ⟨_, ca.over [0, 1] [lexO s pos (.own 1 ts.length 0 (ts.length + 1)) 0, .row ts.length 4 (ts.length + 1) 33 (fun i => (tkAt (t :: ts) i).cells), .row 0 1 acc.length 5 (bcell acc)] rfl (by simp) (by simp) (by rintro (_ | _ | j) o hj <;> cases hj <;> rfl) rfl, ?_⟩
          rintro _ _ ⟨_, _, rfl, rfl, rfl⟩
          exact ⟨[0, 1], .junk, textH s pos (t :: ts) (some (acc, i + 1)), by simp, (show 2 ≤ 2 by decide), .junk _, ⟨⟨fun _ => ⟨rfl, rfl⟩, rfl, rfl, rfl, fun i hi => by obtain rfl : i = 0 := (by omega); exact ⟨.str_eq rfl, .int_eq rfl, .own_eq rfl ⟨_, _, _, _, rfl⟩ ⟨_, _, _, _, rfl⟩ rfl rfl, .int_eq rfl, trivial⟩⟩, ⟨fun _ => ⟨rfl, rfl⟩, rfl, rfl, rfl, fun i hi => ⟨.int_eq rfl, .int_eq rfl, .str_eq rfl, .int_eq rfl, trivial⟩⟩, trivial⟩, rfl⟩
      · have h16 : ¬ (rest.getD i 0).toNat = 39 := by have q : (((rest.getD i 0).toNat : Nat) : Int) ≠ 39 := ne_of_beq_false h16; omega
        have e1 : IntKind.i64.wrap ((i : Int) + 1) = ((i + 1 : Nat) : Int) := by rw [w64] <;> omega
        refine ⟨⟨by first | omega | (simp only; omega), by first | omega | (simp only; omega)⟩, ?_⟩
        refine splitB.mk (fun h30 => ?_) (fun h30 => ?_)
        · have h30 : (rest.getD i 0).toNat = 92 := by have q : (((rest.getD i 0).toNat : Nat) : Int) = 92 := eq_of_beq h30; omega
          iterate 5 refine splitB.mk (fun _ => ?_) (fun h => absurd h (by decide))
          refine splitB.mk (fun h37 => ?_) (fun h37 => ?_)
          · have hi1 : i + 1 < rest.length := by have q := of_decide_eq_true h37; rw [e1] at q; omega
            iterate 3 refine splitB.mk (fun _ => ?_) (fun h => absurd h (by decide))
            refine ⟨⟨by first | omega | (simp only; omega), by first | omega | (simp only; omega)⟩, ?_⟩
            iterate 2 refine splitB.mk (fun _ => ?_) (fun h => absurd h (by decide))
            refine splitB.mk (fun h43 => ?_) (fun h43 => ?_)
            · have h43 : (rest.getD (i + 1) 0).toNat = 39 := by have q : (((rest.getD (i + 1) 0).toNat : Nat) : Int) = 39 := (by have q := eq_of_beq h43; rw [e1] at q; exact q); omega
              iterate 8 refine splitB.mk (fun _ => ?_) (fun h => absurd h (by decide))
              have hd : (rest.getD (i + 1) 0).toNat = 39 ∨ (rest.getD (i + 1) 0).toNat = 92 := by first | exact .inl h43 | exact .inr h50
              have hg2 := hg
              rw [strGo_esc hi1 h16 h30 hd] at hg2
              refine ⟨⟨by rw [e1]; omega, by rw [e1]; omega⟩, ?_⟩
              refine ⟨rfl, rfl, by simp only; omega, ?_⟩
              exact ⟨(acc ++ [rest.getD (i + 1) 0], i + 2), ⟨hg2, by simp; omega, by simp only; omega⟩, by simp only; omega, [0, 1, 2], by simp, (show 2 ≤ 3 by decide), ⟨.optr_eq rfl ⟨_, _, _, _, rfl⟩ ⟨_, _, _, _, rfl⟩ rfl rfl, .str_eq rfl, .own_eq rfl ⟨_, _, _, _, rfl⟩ ⟨_, _, _, _, rfl⟩ rfl (by simp), .int_eq (by rw [e1, w64] <;> omega), trivial⟩, ⟨⟨fun _ => ⟨rfl, rfl⟩, rfl, rfl, rfl, fun i hi => by obtain rfl : i = 0 := (by omega); exact ⟨.str_eq rfl, .int_eq rfl, .own_eq rfl ⟨_, _, _, _, rfl⟩ ⟨_, _, _, _, rfl⟩ rfl rfl, .int_eq rfl, trivial⟩⟩, ⟨fun _ => ⟨rfl, rfl⟩, rfl, rfl, rfl, fun i hi => ⟨.int_eq rfl, .int_eq rfl, .str_eq rfl, .int_eq rfl, trivial⟩⟩, ⟨fun h => absurd (show 2 < 2 from h) (by decide), rfl, by simp, rfl, rowStep acc _ _ (by show [PV.int .u8 (((rest.getD (IntKind.i64.wrap ((i : Int) + 1)).toNat 0).toNat : Nat) : Int)] = _; rw [e1]; rfl)⟩, trivial⟩⟩
            · have h43 : ¬ (rest.getD (i + 1) 0).toNat = 39 := by have q : (((rest.getD (i + 1) 0).toNat : Nat) : Int) ≠ 39 := (by have q := ne_of_beq_false h43; rw [e1] at q; exact q); omega
              iterate 3 refine splitB.mk (fun h => absurd h (by decide)) (fun _ => ?_)
              refine ⟨⟨by first | omega | (simp only; omega), by first | omega | (simp only; omega)⟩, ?_⟩
              refine splitB.mk (fun h => absurd h (by decide)) (fun _ => ?_)
              refine splitB.mk (fun _ => ?_) (fun h => absurd h (by decide))
              refine splitB.mk (fun h => absurd h (by decide)) (fun _ => ?_)
              refine splitB.mk (fun _ => ?_) (fun h => absurd h (by decide))
              refine splitB.mk (fun h50 => ?_) (fun h50 => ?_)
              · have h50 : (rest.getD (i + 1) 0).toNat = 92 := by have q : (((rest.getD (i + 1) 0).toNat : Nat) : Int) = 92 := (by have q := eq_of_beq h50; rw [e1] at q; exact q); omega
                have hd : (rest.getD (i + 1) 0).toNat = 39 ∨ (rest.getD (i + 1) 0).toNat = 92 := by first | exact .inl h43 | exact .inr h50
                have hg2 := hg
                rw [strGo_esc hi1 h16 h30 hd] at hg2
                refine ⟨⟨by rw [e1]; omega, by rw [e1]; omega⟩, ?_⟩
                refine ⟨rfl, rfl, by simp only; omega, ?_⟩
                exact ⟨(acc ++ [rest.getD (i + 1) 0], i + 2), ⟨hg2, by simp; omega, by simp only; omega⟩, by simp only; omega, [0, 1, 2], by simp, (show 2 ≤ 3 by decide), ⟨.optr_eq rfl ⟨_, _, _, _, rfl⟩ ⟨_, _, _, _, rfl⟩ rfl rfl, .str_eq rfl, .own_eq rfl ⟨_, _, _, _, rfl⟩ ⟨_, _, _, _, rfl⟩ rfl (by simp), .int_eq (by rw [e1, w64] <;> omega), trivial⟩, ⟨⟨fun _ => ⟨rfl, rfl⟩, rfl, rfl, rfl, fun i hi => by obtain rfl : i = 0 := (by omega); exact ⟨.str_eq rfl, .int_eq rfl, .own_eq rfl ⟨_, _, _, _, rfl⟩ ⟨_, _, _, _, rfl⟩ rfl rfl, .int_eq rfl, trivial⟩⟩, ⟨fun _ => ⟨rfl, rfl⟩, rfl, rfl, rfl, fun i hi => ⟨.int_eq rfl, .int_eq rfl, .str_eq rfl, .int_eq rfl, trivial⟩⟩, ⟨fun h => absurd (show 2 < 2 from h) (by decide), rfl, by simp, rfl, rowStep acc _ _ (by show [PV.int .u8 (((rest.getD (IntKind.i64.wrap ((i : Int) + 1)).toNat 0).toNat : Nat) : Int)] = _; rw [e1]; rfl)⟩, trivial⟩⟩
              · have h50 : ¬ (rest.getD (i + 1) 0).toNat = 92 := by have q : (((rest.getD (i + 1) 0).toNat : Nat) : Int) ≠ 92 := (by have q := ne_of_beq_false h50; rw [e1] at q; exact q); omega
                have hb : ¬ ((rest.getD i 0).toNat = 92 ∧ i + 1 < rest.length ∧ ((rest.getD (i + 1) 0).toNat = 39 ∨ (rest.getD (i + 1) 0).toNat = 92)) := by first | exact fun hx => h30 hx.1 | exact fun hx => hi1 hx.2.1 | exact fun hx => hx.2.2.elim h43 h50
                have hg2 := hg
                rw [strGo_step h10 h16 hb] at hg2
                refine ⟨⟨by simp only; omega, by simp only; omega⟩, ?_⟩
                refine ⟨rfl, rfl, by simp only; omega, ?_⟩
                exact ⟨(acc ++ [rest.getD i 0], i + 1), ⟨hg2, by simp; omega, by simp only; omega⟩, by simp only; omega, [0, 1, 2], by simp, (show 2 ≤ 3 by decide), ⟨.optr_eq rfl ⟨_, _, _, _, rfl⟩ ⟨_, _, _, _, rfl⟩ rfl rfl, .str_eq rfl, .own_eq rfl ⟨_, _, _, _, rfl⟩ ⟨_, _, _, _, rfl⟩ rfl (by simp), .int_eq (by rw [w64] <;> omega), trivial⟩, ⟨⟨fun _ => ⟨rfl, rfl⟩, rfl, rfl, rfl, fun i hi => by obtain rfl : i = 0 := (by omega); exact ⟨.str_eq rfl, .int_eq rfl, .own_eq rfl ⟨_, _, _, _, rfl⟩ ⟨_, _, _, _, rfl⟩ rfl rfl, .int_eq rfl, trivial⟩⟩, ⟨fun _ => ⟨rfl, rfl⟩, rfl, rfl, rfl, fun i hi => ⟨.int_eq rfl, .int_eq rfl, .str_eq rfl, .int_eq rfl, trivial⟩⟩, ⟨fun h => absurd (show 2 < 2 from h) (by decide), rfl, by simp, rfl, rowStep acc _ _⟩, trivial⟩⟩
          · have hi1 : ¬ i + 1 < rest.length := by have q := of_decide_eq_false h37; rw [e1] at q; omega
            iterate 8 refine splitB.mk (fun h => absurd h (by decide)) (fun _ => ?_)
            have hb : ¬ ((rest.getD i 0).toNat = 92 ∧ i + 1 < rest.length ∧ ((rest.getD (i + 1) 0).toNat = 39 ∨ (rest.getD (i + 1) 0).toNat = 92)) := by first | exact fun hx => h30 hx.1 | exact fun hx => hi1 hx.2.1 | exact fun hx => hx.2.2.elim h43 h50
            have hg2 := hg
            rw [strGo_step h10 h16 hb] at hg2
            refine ⟨⟨by simp only; omega, by simp only; omega⟩, ?_⟩
            refine ⟨rfl, rfl, by simp only; omega, ?_⟩
            exact ⟨(acc ++ [rest.getD i 0], i + 1), ⟨hg2, by simp; omega, by simp only; omega⟩, by simp only; omega, [0, 1, 2], by simp, (show 2 ≤ 3 by decide), ⟨.optr_eq rfl ⟨_, _, _, _, rfl⟩ ⟨_, _, _, _, rfl⟩ rfl rfl, .str_eq rfl, .own_eq rfl ⟨_, _, _, _, rfl⟩ ⟨_, _, _, _, rfl⟩ rfl (by simp), .int_eq (by rw [w64] <;> omega), trivial⟩, ⟨⟨fun _ => ⟨rfl, rfl⟩, rfl, rfl, rfl, fun i hi => by obtain rfl : i = 0 := (by omega); exact ⟨.str_eq rfl, .int_eq rfl, .own_eq rfl ⟨_, _, _, _, rfl⟩ ⟨_, _, _, _, rfl⟩ rfl rfl, .int_eq rfl, trivial⟩⟩, ⟨fun _ => ⟨rfl, rfl⟩, rfl, rfl, rfl, fun i hi => ⟨.int_eq rfl, .int_eq rfl, .str_eq rfl, .int_eq rfl, trivial⟩⟩, ⟨fun h => absurd (show 2 < 2 from h) (by decide), rfl, by simp, rfl, rowStep acc _ _⟩, trivial⟩⟩
        · have h30 : ¬ (rest.getD i 0).toNat = 92 := by have q : (((rest.getD i 0).toNat : Nat) : Int) ≠ 92 := ne_of_beq_false h30; omega
          iterate 14 refine splitB.mk (fun h => absurd h (by decide)) (fun _ => ?_)
          have hb : ¬ ((rest.getD i 0).toNat = 92 ∧ i + 1 < rest.length ∧ ((rest.getD (i + 1) 0).toNat = 39 ∨ (rest.getD (i + 1) 0).toNat = 92)) := by first | exact fun hx => h30 hx.1 | exact fun hx => hi1 hx.2.1 | exact fun hx => hx.2.2.elim h43 h50
          have hg2 := hg
          rw [strGo_step h10 h16 hb] at hg2
          refine ⟨⟨by simp only; omega, by simp only; omega⟩, ?_⟩
          refine ⟨rfl, rfl, by simp only; omega, ?_⟩
          exact ⟨(acc ++ [rest.getD i 0], i + 1), ⟨hg2, by simp; omega, by simp only; omega⟩, by simp only; omega, [0, 1, 2], by simp, (show 2 ≤ 3 by decide), ⟨.optr_eq rfl ⟨_, _, _, _, rfl⟩ ⟨_, _, _, _, rfl⟩ rfl rfl, .str_eq rfl, .own_eq rfl ⟨_, _, _, _, rfl⟩ ⟨_, _, _, _, rfl⟩ rfl (by simp), .int_eq (by rw [w64] <;> omega), trivial⟩, ⟨⟨fun _ => ⟨rfl, rfl⟩, rfl, rfl, rfl, fun i hi => by obtain rfl : i = 0 := (by omega); exact ⟨.str_eq rfl, .int_eq rfl, .own_eq rfl ⟨_, _, _, _, rfl⟩ ⟨_, _, _, _, rfl⟩ rfl rfl, .int_eq rfl, trivial⟩⟩, ⟨fun _ => ⟨rfl, rfl⟩, rfl, rfl, rfl, fun i hi => ⟨.int_eq rfl, .int_eq rfl, .str_eq rfl, .int_eq rfl, trivial⟩⟩, ⟨fun h => absurd (show 2 < 2 from h) (by decide), rfl, by simp, rfl, rowStep acc _ _⟩, trivial⟩⟩
    · have h10 : ¬ i < rest.length := by have := of_decide_eq_false h10; simp only at this; omega
      rw [strGo_end h10] at hg
      refine ⟨rfl, rfl, rfl, ?_⟩
      subst hg
      exact ⟨[0, 1], .junk, LH s pos 3 (t :: ts), by simp, (show 2 ≤ 2 by decide), .junk _, ⟨⟨fun _ => ⟨rfl, rfl⟩, rfl, rfl, rfl, fun i hi => by obtain rfl : i = 0 := (by omega); exact ⟨.str_eq rfl, .int_eq rfl, .own_eq rfl ⟨_, _, _, _, rfl⟩ ⟨_, _, _, _, rfl⟩ rfl rfl, .int_eq rfl, trivial⟩⟩, ⟨fun _ => ⟨rfl, rfl⟩, rfl, rfl, rfl, fun i hi => ⟨.int_eq rfl, .int_eq rfl, .str_eq rfl, .int_eq rfl, trivial⟩⟩, trivial⟩, rfl⟩

theorem text_ok (s : List UInt8) (pos : Int) (ts : List Tk) (hn : ts.length ≤ 1000000) (rest : List UInt8) (hl : rest.length ≤ 100000) :
    ACall Tryd.prog 70 [.optr 0 0 0 0, .str rest] (LH s pos 0 ts) (fun _ h => h = textH s pos ts (strGo (rest.drop 1) [] 1)) := by
  cases ts with
  | nil => exact textNil s pos hn rest hl
  | cons t ts => exact textCons s pos t ts hn rest hl

end Go.Am
