/- A token: the walk. (Printed by gen10.py.) -/
import Derived.Test.YtagfpmbccfghnaaDoorX9
set_option linter.unusedVariables false
set_option linter.unusedSimpArgs false
namespace Go.Am
open Go Go.RowKit Go.Proofs

def drawK (K : Env → List AObj → Prop) (h : List AObj) : Env → Prop := fun env' => K env' h
theorem DrawVC.quietC {P : Program} {T : Tab} {m : Nat} {ops : Array Oper} {K : Env → List AObj → Prop} {env : Env} {h : List AObj} (hq : qops P T ops.toList h (drawK K h) ops.toList env) : DrawVC P T m ops K env h := .quiet hq
theorem bneT (x c : Nat) (h : ((x : Int) != (c : Int)) = true) : ¬ x = c := fun e => by subst e; simp at h
theorem bneF (x c : Nat) (h : ((x : Int) != (c : Int)) = false) : x = c := Int.ofNat.inj (by simpa using h)
theorem eqT (x c : Nat) (h : ((x : Int) == (c : Int)) = true) : x = c := Int.ofNat.inj (by simpa using h)
theorem eqF (x c : Nat) (h : ((x : Int) == (c : Int)) = false) : ¬ x = c := fun e => by subst e; simp at h
theorem pre_len {l p : List UInt8} (h : Lib.hasPrefix l p = true) : p.length ≤ l.length := by
  have h' : p.isPrefixOf l = true := h
  exact (List.isPrefixOf_iff_prefix.1 h').length_le

theorem tokNil (s : List UInt8) (pos : Nat) (hn : ([] : List Tk).length ≤ 800000) (hp : pos < s.length) (hs : s.length ≤ 100000) :
    ACall Tryd.prog 33 [.optr 0 0 0 0] (LH s pos 0 []) (fun _ h => h = tokH s pos []) := by
  have hdl : (s.drop pos).length = s.length - pos := by simp
  have ec : (s.drop pos).getD 0 0 = s.getD pos 0 := by rw [getD_drop, Nat.add_zero]
  refine ACall.of_vc tabL_ok mixed Tryd.func33 rfl (by kernel_rfl) _ _ _ rfl (by kernel_rfl) ?_
  refine ⟨rfl, rfl, rfl, rfl, rfl, rfl, ⟨by omega, by omega⟩, ?_⟩
  refine ⟨⟨by omega, by show (0 : Int) < ((s.drop pos).length : Int); omega⟩, ?_⟩
  refine splitB.mk (fun h26 => ?_) (fun h26 => ?_)
  · have q26 : (s.getD pos 0).toNat = 32 := by have q : (((s.drop pos).getD 0 0).toNat : Int) = 32 := eq_of_beq h26; rw [ec] at q; omega
    iterate 9 refine splitB.mk (fun _ => ?_) (fun h => absurd h (by decide))
    have hw : isWs (s.getD pos 0) := by unfold isWs; omega
    have hT : tokH s pos [] = LH s ((pos + 1 : Nat) : Int) 0 [] := by unfold tokH; rw [if_pos hw]
    refine ⟨rfl, rfl, rfl, rfl, rfl, rfl, ?_⟩
    exact ⟨[0], .junk, LH s ((pos + 1 : Nat) : Int) 0 [], by simp, (show 1 ≤ 1 by decide), .junk _, ⟨⟨fun _ => ⟨rfl, rfl⟩, rfl, rfl, rfl, fun i hi => by obtain rfl : i = 0 := (by omega); exact ⟨.str_eq rfl, .int_eq (by rw [w64] <;> omega), .nils, .int_eq (rfl), trivial⟩⟩, trivial⟩, by rw [hT]⟩
  · have n26 : ¬ (s.getD pos 0).toNat = 32 := by have q : (((s.drop pos).getD 0 0).toNat : Int) ≠ 32 := ne_of_beq_false h26; rw [ec] at q; omega
    iterate 2 refine splitB.mk (fun h => absurd h (by decide)) (fun _ => ?_)
    refine splitB.mk (fun h30 => ?_) (fun h30 => ?_)
    · have q30 : (s.getD pos 0).toNat = 9 := by have q : (((s.drop pos).getD 0 0).toNat : Int) = 9 := eq_of_beq h30; rw [ec] at q; omega
      iterate 6 refine splitB.mk (fun _ => ?_) (fun h => absurd h (by decide))
      have hw : isWs (s.getD pos 0) := by unfold isWs; omega
      have hT : tokH s pos [] = LH s ((pos + 1 : Nat) : Int) 0 [] := by unfold tokH; rw [if_pos hw]
      refine ⟨rfl, rfl, rfl, rfl, rfl, rfl, ?_⟩
      exact ⟨[0], .junk, LH s ((pos + 1 : Nat) : Int) 0 [], by simp, (show 1 ≤ 1 by decide), .junk _, ⟨⟨fun _ => ⟨rfl, rfl⟩, rfl, rfl, rfl, fun i hi => by obtain rfl : i = 0 := (by omega); exact ⟨.str_eq rfl, .int_eq (by rw [w64] <;> omega), .nils, .int_eq (rfl), trivial⟩⟩, trivial⟩, by rw [hT]⟩
    · have n30 : ¬ (s.getD pos 0).toNat = 9 := by have q : (((s.drop pos).getD 0 0).toNat : Int) ≠ 9 := ne_of_beq_false h30; rw [ec] at q; omega
      iterate 2 refine splitB.mk (fun h => absurd h (by decide)) (fun _ => ?_)
      refine splitB.mk (fun h34 => ?_) (fun h34 => ?_)
      · have q34 : (s.getD pos 0).toNat = 10 := by have q : (((s.drop pos).getD 0 0).toNat : Int) = 10 := eq_of_beq h34; rw [ec] at q; omega
        iterate 3 refine splitB.mk (fun _ => ?_) (fun h => absurd h (by decide))
        have hw : isWs (s.getD pos 0) := by unfold isWs; omega
        have hT : tokH s pos [] = LH s ((pos + 1 : Nat) : Int) 0 [] := by unfold tokH; rw [if_pos hw]
        refine ⟨rfl, rfl, rfl, rfl, rfl, rfl, ?_⟩
        exact ⟨[0], .junk, LH s ((pos + 1 : Nat) : Int) 0 [], by simp, (show 1 ≤ 1 by decide), .junk _, ⟨⟨fun _ => ⟨rfl, rfl⟩, rfl, rfl, rfl, fun i hi => by obtain rfl : i = 0 := (by omega); exact ⟨.str_eq rfl, .int_eq (by rw [w64] <;> omega), .nils, .int_eq (rfl), trivial⟩⟩, trivial⟩, by rw [hT]⟩
      · have n34 : ¬ (s.getD pos 0).toNat = 10 := by have q : (((s.drop pos).getD 0 0).toNat : Int) ≠ 10 := ne_of_beq_false h34; rw [ec] at q; omega
        iterate 2 refine splitB.mk (fun h => absurd h (by decide)) (fun _ => ?_)
        refine splitB.mk (fun h23 => ?_) (fun h23 => ?_)
        · have q23 : (s.getD pos 0).toNat = 13 := by have q : (((s.drop pos).getD 0 0).toNat : Int) = 13 := eq_of_beq h23; rw [ec] at q; omega
          have hw : isWs (s.getD pos 0) := by unfold isWs; omega
          have hT : tokH s pos [] = LH s ((pos + 1 : Nat) : Int) 0 [] := by unfold tokH; rw [if_pos hw]
          refine ⟨rfl, rfl, rfl, rfl, rfl, rfl, ?_⟩
          exact ⟨[0], .junk, LH s ((pos + 1 : Nat) : Int) 0 [], by simp, (show 1 ≤ 1 by decide), .junk _, ⟨⟨fun _ => ⟨rfl, rfl⟩, rfl, rfl, rfl, fun i hi => by obtain rfl : i = 0 := (by omega); exact ⟨.str_eq rfl, .int_eq (by rw [w64] <;> omega), .nils, .int_eq (rfl), trivial⟩⟩, trivial⟩, by rw [hT]⟩
        · have n23 : ¬ (s.getD pos 0).toNat = 13 := by have q : (((s.drop pos).getD 0 0).toNat : Int) ≠ 13 := ne_of_beq_false h23; rw [ec] at q; omega
          have hw : ¬ isWs (s.getD pos 0) := by unfold isWs; omega
          refine ⟨_, hasPrefix_ok _ _ _, ?_⟩
          rintro _ _ ⟨rfl, rfl⟩
          refine splitB.mk (fun h45 => ?_) (fun h45 => ?_)
          · have h45 : Lib.hasPrefix (s.drop pos) [63, 62] = true := h45
            have hl2 : pos + 2 ≤ s.length := by have := pre_len h45; simp at this; omega
            have hT : tokH s pos [] = inlH s (semiEnd s pos) ([] ++ [Tk.mk 6 0 [59] pos]) := by unfold tokH; rw [if_neg hw, if_pos h45]
            have e2 : IntKind.i64.wrap ((pos : Int) + 2) = ((pos + 2 : Nat) : Int) := by rw [w64] <;> omega
            refine ⟨_, (add_ok s pos 0 6 0 2 [59] [] (by omega)).mono (fun _ h hh => show h = LH s ((pos + 2 : Nat) : Int) 0 [Tk.mk 6 0 [59] pos] by rw [hh, e2] <;> rfl), ?_⟩
            rintro _ _ rfl
            iterate 6 refine ⟨rfl, ?_⟩
            refine splitB.mk (fun h60 => ?_) (fun h60 => ?_)
            · have h60 : pos + 2 < s.length := by have q := of_decide_eq_true h60; omega
              refine splitB.mk (fun _ => ?_) (fun h => absurd h (by decide))
              refine ⟨rfl, ?_⟩
              refine splitB.mk (fun _ => ?_) (fun h => absurd h (by decide))
              refine ⟨rfl, ?_⟩
              refine splitB.mk (fun _ => ?_) (fun h => absurd h (by decide))
              refine ⟨rfl, ?_⟩
              iterate 2 refine splitB.mk (fun _ => ?_) (fun h => absurd h (by decide))
              refine ⟨rfl, ?_⟩
              refine splitB.mk (fun _ => ?_) (fun h => absurd h (by decide))
              refine ⟨rfl, ?_⟩
              refine splitB.mk (fun _ => ?_) (fun h => absurd h (by decide))
              refine ⟨rfl, ?_⟩
              refine splitB.mk (fun _ => ?_) (fun h => absurd h (by decide))
              refine ⟨⟨by first | omega | (simp only; omega), by first | omega | (simp only; omega)⟩, ?_⟩
              iterate 2 refine splitB.mk (fun _ => ?_) (fun h => absurd h (by decide))
              refine splitB.mk (fun h71 => ?_) (fun h71 => ?_)
              · have h71 : (s.getD (pos + 2) 0).toNat = 10 := by have q : (((s.getD (pos + 2) 0).toNat : Nat) : Int) = 10 := eq_of_beq h71; omega
                have hE : semiEnd s pos = pos + 3 := by unfold semiEnd; rw [if_pos ⟨h60, h71⟩]
                rw [hE] at hT
                refine ⟨rfl, rfl, rfl, rfl, rfl, rfl, ?_⟩
                have e3 : IntKind.i64.wrap (((pos + 2 : Nat) : Int) + 1) = ((pos + 3 : Nat) : Int) := by rw [w64] <;> omega
                refine ⟨_, (inl_ok s (pos + 3) [Tk.mk 6 0 [59] pos] (by simp at hn ⊢ <;> omega) (by omega) hs).heq ⟨⟨rfl, rfl, rfl, rfl, fun i hi => by obtain rfl : i = 0 := (by omega); show [PV.str s, .int .i64 (IntKind.i64.wrap (((pos + 2 : Nat) : Int) + 1)), _, .int .i64 0] = _; rw [e3]⟩, ⟨rfl, rfl, rfl, rfl, fun _ _ => rfl⟩, trivial⟩, ?_⟩
                rintro _ _ rfl
                exact ends_inl s pos (pos + 3) [] _ hT.symm
              · have h71 : ¬ (s.getD (pos + 2) 0).toNat = 10 := by have q : (((s.getD (pos + 2) 0).toNat : Nat) : Int) ≠ 10 := ne_of_beq_false h71; omega
                have hE : semiEnd s pos = pos + 2 := by unfold semiEnd; first | rw [if_neg (fun h => h60 h.1)] | rw [if_neg (fun h => h71 h.2)]
                rw [hE] at hT
                refine ⟨_, inl_ok s (pos + 2) [Tk.mk 6 0 [59] pos] (by simp at hn ⊢ <;> omega) (by omega) hs, ?_⟩
                rintro _ _ rfl
                exact ends_inl s pos (pos + 2) [] _ hT.symm
            · have h60 : ¬ pos + 2 < s.length := by have q := of_decide_eq_false h60; omega
              iterate 11 refine splitB.mk (fun h => absurd h (by decide)) (fun _ => ?_)
              have hE : semiEnd s pos = pos + 2 := by unfold semiEnd; first | rw [if_neg (fun h => h60 h.1)] | rw [if_neg (fun h => h71 h.2)]
              rw [hE] at hT
              refine ⟨_, inl_ok s (pos + 2) [Tk.mk 6 0 [59] pos] (by simp at hn ⊢ <;> omega) (by omega) hs, ?_⟩
              rintro _ _ rfl
              exact ends_inl s pos (pos + 2) [] _ hT.symm
          · have h45 : Lib.hasPrefix (s.drop pos) [63, 62] = false := h45
            refine ⟨_, hasPrefix_ok _ _ _, ?_⟩
            rintro _ _ ⟨rfl, rfl⟩
            refine splitB.mk (fun h81 => ?_) (fun h81 => ?_)
            · have h81 : Lib.hasPrefix (s.drop pos) [47, 47] = true := h81
              have hT : tokH s pos [] = LH s ((pos + cm (s.drop pos) : Nat) : Int) 0 [] := by unfold tokH; rw [if_neg hw, if_neg (by rw [h45]; decide), if_pos h81]
              have hcl := cm_le (s.drop pos)
              refine LoopVC.mk Nat (fun k => [(0, .optr 0 0 0 0)]) (fun k => [lexO s (((pos + k : Nat) : Int)) .nils 0]) (fun k => k ≤ cm (s.drop pos)) (fun k => cm (s.drop pos) - k) 0 (Nat.zero_le _) ?_ (fun k hk => ?_)
              · exact ⟨[0], by simp, (show 1 ≤ 1 by decide), ⟨.optr_eq rfl ⟨_, _, _, _, rfl⟩ ⟨_, _, _, _, rfl⟩ rfl rfl, trivial⟩, ⟨⟨fun _ => ⟨rfl, rfl⟩, rfl, rfl, rfl, fun i hi => by obtain rfl : i = 0 := (by omega); exact ⟨.str_eq rfl, .int_eq (rfl), .nils, .int_eq (rfl), trivial⟩⟩, trivial⟩⟩
              · have hc := cm_lt (s.drop pos) k hk
                obtain ⟨b, hb⟩ : ∃ b, Lib.hasPrefix (s.drop (pos + k)) [63, 62] = b := ⟨_, rfl⟩
                have cp := hasPrefix_ok (s.drop (pos + k)) [63, 62] []
                rw [hb] at cp
                refine DrawVC.quietC ?_
                iterate 6 refine ⟨rfl, ?_⟩
                refine splitB.mk (fun h94 => ?_) (fun h94 => ?_)
                · have h94 : pos + k < s.length := by have q := of_decide_eq_true h94; omega
                  refine splitB.mk (fun _ => ?_) (fun h => absurd h (by decide))
                  refine ⟨rfl, ?_⟩
                  refine splitB.mk (fun _ => ?_) (fun h => absurd h (by decide))
                  refine ⟨rfl, ?_⟩
                  refine splitB.mk (fun _ => ?_) (fun h => absurd h (by decide))
                  refine ⟨rfl, ?_⟩
                  iterate 2 refine splitB.mk (fun _ => ?_) (fun h => absurd h (by decide))
                  refine ⟨rfl, ?_⟩
                  refine splitB.mk (fun _ => ?_) (fun h => absurd h (by decide))
                  refine ⟨rfl, ?_⟩
                  refine splitB.mk (fun _ => ?_) (fun h => absurd h (by decide))
                  refine ⟨rfl, ?_⟩
                  refine splitB.mk (fun _ => ?_) (fun h => absurd h (by decide))
                  refine ⟨⟨by first | omega | (simp only; omega), by first | omega | (simp only; omega)⟩, ?_⟩
                  iterate 2 refine splitB.mk (fun _ => ?_) (fun h => absurd h (by decide))
                  refine splitB.mk (fun h106 => ?_) (fun h106 => ?_)
                  · have h106 : ¬ (s.getD (pos + k) 0).toNat = 10 := bneT _ 10 h106
                    refine splitB.mk (fun _ => ?_) (fun h => absurd h (by decide))
                    refine ⟨rfl, ?_⟩
                    refine splitB.mk (fun _ => ?_) (fun h => absurd h (by decide))
                    refine ⟨rfl, ?_⟩
                    refine splitB.mk (fun _ => ?_) (fun h => absurd h (by decide))
                    refine ⟨rfl, ?_⟩
                    iterate 2 refine splitB.mk (fun _ => ?_) (fun h => absurd h (by decide))
                    refine ⟨rfl, ?_⟩
                    refine splitB.mk (fun _ => ?_) (fun h => absurd h (by decide))
                    refine ⟨rfl, ?_⟩
                    refine splitB.mk (fun _ => ?_) (fun h => absurd h (by decide))
                    refine ⟨rfl, ?_⟩
                    refine splitB.mk (fun _ => ?_) (fun h => absurd h (by decide))
                    refine ⟨⟨by omega, by omega⟩, ?_⟩ -- SLICE slice 9 t110 (some t114) none none
                    refine splitB.mk (fun _ => ?_) (fun h => absurd h (by decide))
                    refine ⟨[.str (s.drop (pos + k)), .str [63, 62]], .bool b, ⟨.str_eq rfl, .str_eq rfl, trivial⟩, rfl, (cp).mono (fun _ _ h => h.1), ?_⟩
                    iterate 2 refine splitB.mk (fun _ => ?_) (fun h => absurd h (by decide))
                    refine splitB.mk (fun h118 => ?_) (fun h118 => ?_)
                    · have hb0 : b = false := by cases b; rfl; cases h118
                      subst hb0
                      have hlt : k < cm (s.drop pos) := hc.2 ⟨by omega, by rw [getD_drop]; exact h106, by rw [List.drop_drop]; exact hb⟩
                      refine ⟨rfl, rfl, rfl, rfl, rfl, rfl, ?_⟩
                      exact ⟨k + 1, hlt, by simp only; omega, [0], by simp, (show 1 ≤ 1 by decide), ⟨.optr_eq rfl ⟨_, _, _, _, rfl⟩ ⟨_, _, _, _, rfl⟩ rfl rfl, trivial⟩, ⟨⟨fun _ => ⟨rfl, rfl⟩, rfl, rfl, rfl, fun i hi => by obtain rfl : i = 0 := (by omega); exact ⟨.str_eq rfl, .int_eq (by rw [w64] <;> omega), .nils, .int_eq (rfl), trivial⟩⟩, trivial⟩⟩
                    · have hb0 : b = true := by cases b; cases h118; rfl
                      have hns : ¬ k < cm (s.drop pos) := fun hlt => by have hq := hc.1 hlt; rw [getD_drop, List.drop_drop] at hq; first | exact h94 (by have := hq.1; omega) | exact hq.2.1 h106 | (subst hb0; rw [hb] at hq; exact absurd hq.2.2 (by decide))
                      have hk2 : cm (s.drop pos) = k := by omega
                      rw [hk2] at hT
                      exact ⟨[0], .junk, LH s ((pos + k : Nat) : Int) 0 [], by simp, (show 1 ≤ 1 by decide), .junk _, ⟨⟨fun _ => ⟨rfl, rfl⟩, rfl, rfl, rfl, fun i hi => by obtain rfl : i = 0 := (by omega); exact ⟨.str_eq rfl, .int_eq (rfl), .nils, .int_eq (rfl), trivial⟩⟩, trivial⟩, by rw [hT]⟩
                  · have h106 : (s.getD (pos + k) 0).toNat = 10 := bneF _ 10 h106
                    iterate 12 refine splitB.mk (fun h => absurd h (by decide)) (fun _ => ?_)
                    have hns : ¬ k < cm (s.drop pos) := fun hlt => by have hq := hc.1 hlt; rw [getD_drop, List.drop_drop] at hq; first | exact h94 (by have := hq.1; omega) | exact hq.2.1 h106 | (subst hb0; rw [hb] at hq; exact absurd hq.2.2 (by decide))
                    have hk2 : cm (s.drop pos) = k := by omega
                    rw [hk2] at hT
                    exact ⟨[0], .junk, LH s ((pos + k : Nat) : Int) 0 [], by simp, (show 1 ≤ 1 by decide), .junk _, ⟨⟨fun _ => ⟨rfl, rfl⟩, rfl, rfl, rfl, fun i hi => by obtain rfl : i = 0 := (by omega); exact ⟨.str_eq rfl, .int_eq (rfl), .nils, .int_eq (rfl), trivial⟩⟩, trivial⟩, by rw [hT]⟩
                · have h94 : ¬ pos + k < s.length := by have q := of_decide_eq_false h94; omega
                  iterate 23 refine splitB.mk (fun h => absurd h (by decide)) (fun _ => ?_)
                  have hns : ¬ k < cm (s.drop pos) := fun hlt => by have hq := hc.1 hlt; rw [getD_drop, List.drop_drop] at hq; first | exact h94 (by have := hq.1; omega) | exact hq.2.1 h106 | (subst hb0; rw [hb] at hq; exact absurd hq.2.2 (by decide))
                  have hk2 : cm (s.drop pos) = k := by omega
                  rw [hk2] at hT
                  exact ⟨[0], .junk, LH s ((pos + k : Nat) : Int) 0 [], by simp, (show 1 ≤ 1 by decide), .junk _, ⟨⟨fun _ => ⟨rfl, rfl⟩, rfl, rfl, rfl, fun i hi => by obtain rfl : i = 0 := (by omega); exact ⟨.str_eq rfl, .int_eq (rfl), .nils, .int_eq (rfl), trivial⟩⟩, trivial⟩, by rw [hT]⟩
            · have h81 : Lib.hasPrefix (s.drop pos) [47, 47] = false := h81
              refine splitB.mk (fun h126 => ?_) (fun h126 => ?_)
              · have q36 : (s.getD pos 0).toNat = 36 := by rw [← ec]; exact eqT _ 36 h126
                obtain ⟨n, hnl⟩ : ∃ n, nameLen ((s.drop pos).drop 1) = n := ⟨_, rfl⟩
                have hnle : n ≤ s.length - pos - 1 := by rw [← hnl]; have q := cnt_le pName ((s.drop pos).drop 1) 0; simp only [List.length_drop] at q; exact q
                have hT : tokH s pos [] = (if n = 0 then LH s pos 2 [] else LH s ((pos + (1 + n) : Nat) : Int) 0 ([] ++ [Tk.mk 2 0 (((s.drop pos).take (1 + n)).drop 1) pos])) := by unfold tokH; rw [if_neg hw, if_neg (by rw [h45]; decide), if_neg (by rw [h81]; decide), if_pos q36, hnl]
                have cn := nameLength_ok ((s.drop pos).drop 1) (by simp only [List.length_drop]; omega)
                rw [hnl] at cn
                refine ⟨⟨by omega, (show (1 : Int) ≤ ((s.drop pos).length : Int) by omega)⟩, ?_⟩
                refine ⟨_, cn.frame0 _ rfl (fun _ => rfl), ?_⟩
                rintro _ _ ⟨rfl, rfl⟩
                refine splitB.mk (fun h133 => ?_) (fun h133 => ?_)
                · have hz : n = 0 := eqT n 0 h133
                  rw [if_pos hz] at hT
                  refine ⟨rfl, rfl, rfl, ?_⟩
                  exact ⟨[0], .junk, LH s pos 2 [], by simp, (show 1 ≤ 1 by decide), .junk _, ⟨⟨fun _ => ⟨rfl, rfl⟩, rfl, rfl, rfl, fun i hi => by obtain rfl : i = 0 := (by omega); exact ⟨.str_eq rfl, .int_eq (rfl), .nils, .int_eq (rfl), trivial⟩⟩, trivial⟩, by rw [hT]⟩
                · have hz : ¬ n = 0 := eqF n 0 h133
                  rw [if_neg hz] at hT
                  have e1 : IntKind.i64.wrap (1 + (n : Int)) = ((1 + n : Nat) : Int) := by rw [w64] <;> omega
                  have e2 : IntKind.i64.wrap ((pos : Int) + ((1 + n : Nat) : Int)) = ((pos + (1 + n) : Nat) : Int) := by rw [w64] <;> omega
                  refine ⟨⟨by omega, (show (1 : Int) ≤ IntKind.i64.wrap (1 + (n : Int)) by rw [e1]; omega), (show IntKind.i64.wrap (1 + (n : Int)) ≤ ((s.drop pos).length : Int) by rw [e1]; omega)⟩, ?_⟩
                  refine ⟨_, (add_ok s pos 0 2 0 (IntKind.i64.wrap (1 + (n : Int))) (((s.drop pos).take (IntKind.i64.wrap (1 + (n : Int))).toNat).drop 1) [] (by omega)).mono (fun _ h hh => show h = LH s ((pos + (1 + n) : Nat) : Int) 0 ([] ++ [Tk.mk 2 0 (((s.drop pos).take (1 + n)).drop 1) pos]) from by rw [hh, e1, e2]; rfl), ?_⟩
                  rintro _ _ rfl
                  exact ends_LH s _ 0 _ (LH_app _ _ _ _ _ _ _) hT.symm
              · have q36 : ¬ (s.getD pos 0).toNat = 36 := by rw [← ec]; exact eqF _ 36 h126
                obtain ⟨n, hnl⟩ : ∃ n, nameLen (s.drop pos) = n := ⟨_, rfl⟩
                have hnle : n ≤ s.length - pos := by rw [← hnl]; have q := cnt_le pName (s.drop pos) 0; simp only [List.length_drop] at q; exact q
                have cn := nameLength_ok (s.drop pos) (by omega)
                rw [hnl] at cn
                refine ⟨_, cn.frame0 _ rfl (fun _ => rfl), ?_⟩
                rintro _ _ ⟨rfl, rfl⟩
                refine splitB.mk (fun h145 => ?_) (fun h145 => ?_)
                · have hz : 0 < n := by have q := of_decide_eq_true h145; omega
                  have hT : tokH s pos [] = LH s ((pos + n : Nat) : Int) 0 ([] ++ [Tk.mk 3 0 ((s.drop pos).take n) pos]) := by unfold tokH; rw [if_neg hw, if_neg (by rw [h45]; decide), if_neg (by rw [h81]; decide), if_neg q36, hnl, if_pos hz]
                  refine ⟨_, cn.frame0 _ rfl (fun _ => rfl), ?_⟩
                  rintro _ _ ⟨rfl, rfl⟩
                  refine ⟨⟨by omega, (show (n : Int) ≤ ((s.drop pos).length : Int) by omega)⟩, ?_⟩
                  have e2 : IntKind.i64.wrap ((pos : Int) + (n : Int)) = ((pos + n : Nat) : Int) := by rw [w64] <;> omega
                  refine ⟨_, (add_ok s pos 0 3 0 n ((s.drop pos).take n) [] (by omega)).mono (fun _ h hh => show h = LH s ((pos + n : Nat) : Int) 0 ([] ++ [Tk.mk 3 0 ((s.drop pos).take n) pos]) from by rw [hh, e2]), ?_⟩
                  rintro _ _ rfl
                  exact ends_LH s _ 0 _ (LH_app _ _ _ _ _ _ _) hT.symm
                · have hz : ¬ 0 < n := by have q := of_decide_eq_false h145; omega
                  obtain ⟨b, hb⟩ : ∃ b, dig (s.getD pos 0) = b := ⟨_, rfl⟩
                  have cd : ACall Tryd.prog 68 [.int .u8 ((s.drop pos).getD 0 0).toNat] [] (fun res h => res = .bool b ∧ h = []) := by have q := isDigit_ok ((s.drop pos).getD 0 0); rw [show dig ((s.drop pos).getD 0 0) = b by rw [ec]; exact hb] at q; exact q
                  refine ⟨_, cd.frame0 _ rfl (fun _ => rfl), ?_⟩
                  rintro _ _ ⟨rfl, rfl⟩
                  cases b with
                  | false =>
                    refine splitB.mk (fun h => absurd h (by decide)) (fun _ => ?_)
                    have hnd : ¬ dig (s.getD pos 0) = true := by rw [hb]; decide
                    refine splitB.mk (fun h188 => ?_) (fun h188 => ?_)
                    · have q39 : (s.getD pos 0).toNat = 39 := by rw [← ec]; exact eqT _ 39 h188
                      have hT : tokH s pos [] = textH s pos [] (strGo ((s.drop pos).drop 1) [] 1) := by unfold tokH; rw [if_neg hw, if_neg (by rw [h45]; decide), if_neg (by rw [h81]; decide), if_neg q36, hnl, if_neg hz, if_neg hnd, if_pos q39]
                      refine ⟨_, text_ok s pos [] (by omega) (s.drop pos) (by omega), ?_⟩
                      rintro _ _ rfl
                      exact ends_text s pos [] _ hT.symm
                    · have q39 : ¬ (s.getD pos 0).toNat = 39 := by rw [← ec]; exact eqF _ 39 h188
                      have hT : tokH s pos [] = markH s pos [] (marksI.find? fun m => Lib.hasPrefix (s.drop pos) m) := by unfold tokH; rw [if_neg hw, if_neg (by rw [h45]; decide), if_neg (by rw [h81]; decide), if_neg q36, hnl, if_neg hz, if_neg hnd, if_neg q39]
                      refine ⟨_, mark_ok s pos [] (by omega) (s.drop pos), ?_⟩
                      rintro _ _ rfl
                      exact ends_mark s pos [] _ hT.symm
                  | true =>
                    refine splitB.mk (fun _ => ?_) (fun h => absurd h (by decide))
                    have hT : tokH s pos [] = numH s pos [] (digLen (s.drop pos)) (pw ((s.drop pos).take (digLen (s.drop pos))) (-1000000000) 1000000000) := by unfold tokH; rw [if_neg hw, if_neg (by rw [h45]; decide), if_neg (by rw [h81]; decide), if_neg q36, hnl, if_neg hz, if_pos hb]
                    have hdle : digLen (s.drop pos) ≤ (s.drop pos).length := cnt_le _ _ 0
                    refine LoopVC.mk Nat (fun k => [(0, .optr 0 0 0 0), (2, .str (s.drop pos)), (6, .int .i64 k)]) (fun k => LH s pos 0 []) (fun k => k ≤ digLen (s.drop pos)) (fun k => digLen (s.drop pos) - k) 0 (Nat.zero_le _) ?_ (fun k hk => ?_)
                    · exact ⟨[0], by simp, (show 1 ≤ 1 by decide), ⟨.optr_eq rfl ⟨_, _, _, _, rfl⟩ ⟨_, _, _, _, rfl⟩ rfl rfl, .str_eq rfl, .int_eq rfl, trivial⟩, ⟨⟨fun _ => ⟨rfl, rfl⟩, rfl, rfl, rfl, fun i hi => by obtain rfl : i = 0 := (by omega); exact ⟨.str_eq rfl, .int_eq (rfl), .nils, .int_eq (rfl), trivial⟩⟩, trivial⟩⟩
                    · have hc := cnt_lt (fun _ c => dig c) (s.drop pos) 0 k hk
                      obtain ⟨b2, hb2⟩ : ∃ b2, dig ((s.drop pos).getD k 0) = b2 := ⟨_, rfl⟩
                      have cd2 := isDigit_ok ((s.drop pos).getD k 0)
                      rw [hb2] at cd2
                      refine splitB.mk (fun h164 => ?_) (fun h164 => ?_)
                      · have h163 : k < (s.drop pos).length := by have q := of_decide_eq_true h164; omega
                        iterate 2 refine splitB.mk (fun _ => ?_) (fun h => absurd h (by decide))
                        refine ⟨⟨by first | omega | (simp only; omega), by first | omega | (simp only; omega)⟩, ?_⟩
                        refine splitB.mk (fun _ => ?_) (fun h => absurd h (by decide))
                        refine ⟨_, cd2.frame0 _ rfl (fun _ => rfl), ?_⟩
                        rintro _ _ ⟨rfl, rfl⟩
                        refine splitB.mk (fun _ => ?_) (fun h => absurd h (by decide))
                        refine splitB.mk (fun h169 => ?_) (fun h169 => ?_)
                        · have hlt : k < digLen (s.drop pos) := hc.2 ⟨h163, by show dig ((s.drop pos).getD k 0) = true; rw [hb2]; exact h169⟩
                          exact ⟨k + 1, hlt, by simp only; omega, [0], by simp, (show 1 ≤ 1 by decide), ⟨.optr_eq rfl ⟨_, _, _, _, rfl⟩ ⟨_, _, _, _, rfl⟩ rfl rfl, .str_eq rfl, .int_eq (by rw [w64] <;> omega), trivial⟩, ⟨⟨fun _ => ⟨rfl, rfl⟩, rfl, rfl, rfl, fun i hi => by obtain rfl : i = 0 := (by omega); exact ⟨.str_eq rfl, .int_eq (rfl), .nils, .int_eq (rfl), trivial⟩⟩, trivial⟩⟩
                        · have hns : ¬ k < digLen (s.drop pos) := fun hlt => by have hq := hc.1 hlt; first | exact h163 hq.1 | (have q2 : dig ((s.drop pos).getD k 0) = true := hq.2; rw [hb2, h169] at q2; cases q2)
                          have hk2 : digLen (s.drop pos) = k := by omega
                          rw [hk2] at hT
                          obtain ⟨o, ho⟩ : ∃ o, pw ((s.drop pos).take k) (-1000000000) 1000000000 = o := ⟨_, rfl⟩
                          have cs := parseSigned_ok ((s.drop pos).take k) (LH s pos 0 [])
                          rw [ho] at cs hT
                          refine ⟨⟨by omega, by omega⟩, ?_⟩
                          cases o with
                          | none =>
                            refine ⟨_, cs, ?_⟩
                            rintro _ _ ⟨rfl, rfl⟩
                            refine splitB.mk (fun _ => ?_) (fun h => absurd h (by decide))
                            refine ⟨rfl, rfl, rfl, ?_⟩
                            exact ⟨[0], .junk, LH s pos 4 [], by simp, (show 1 ≤ 1 by decide), .junk _, ⟨⟨fun _ => ⟨rfl, rfl⟩, rfl, rfl, rfl, fun i hi => by obtain rfl : i = 0 := (by omega); exact ⟨.str_eq rfl, .int_eq (rfl), .nils, .int_eq (rfl), trivial⟩⟩, trivial⟩, by rw [hT] <;> rfl⟩
                          | some v =>
                            refine ⟨_, cs, ?_⟩
                            rintro _ _ ⟨rfl, rfl⟩
                            refine splitB.mk (fun h => absurd h (by decide)) (fun _ => ?_)
                            have e2 : IntKind.i64.wrap ((pos : Int) + (k : Int)) = ((pos + k : Nat) : Int) := by rw [w64] <;> omega
                            refine ⟨_, (add_ok s pos 0 4 v k [] [] (by omega)).mono (fun _ h hh => show h = LH s ((pos + k : Nat) : Int) 0 ([] ++ [Tk.mk 4 v [] pos]) from by rw [hh, e2]), ?_⟩
                            rintro _ _ rfl
                            exact ends_LH s _ 0 _ (LH_app _ _ _ _ _ _ _) hT.symm
                      · have h163 : ¬ k < (s.drop pos).length := by have q := of_decide_eq_false h164; omega
                        iterate 5 refine splitB.mk (fun h => absurd h (by decide)) (fun _ => ?_)
                        have hns : ¬ k < digLen (s.drop pos) := fun hlt => by have hq := hc.1 hlt; first | exact h163 hq.1 | (have q2 : dig ((s.drop pos).getD k 0) = true := hq.2; rw [hb2, h169] at q2; cases q2)
                        have hk2 : digLen (s.drop pos) = k := by omega
                        rw [hk2] at hT
                        obtain ⟨o, ho⟩ : ∃ o, pw ((s.drop pos).take k) (-1000000000) 1000000000 = o := ⟨_, rfl⟩
                        have cs := parseSigned_ok ((s.drop pos).take k) (LH s pos 0 [])
                        rw [ho] at cs hT
                        refine ⟨⟨by omega, by omega⟩, ?_⟩
                        cases o with
                        | none =>
                          refine ⟨_, cs, ?_⟩
                          rintro _ _ ⟨rfl, rfl⟩
                          refine splitB.mk (fun _ => ?_) (fun h => absurd h (by decide))
                          refine ⟨rfl, rfl, rfl, ?_⟩
                          exact ⟨[0], .junk, LH s pos 4 [], by simp, (show 1 ≤ 1 by decide), .junk _, ⟨⟨fun _ => ⟨rfl, rfl⟩, rfl, rfl, rfl, fun i hi => by obtain rfl : i = 0 := (by omega); exact ⟨.str_eq rfl, .int_eq (rfl), .nils, .int_eq (rfl), trivial⟩⟩, trivial⟩, by rw [hT] <;> rfl⟩
                        | some v =>
                          refine ⟨_, cs, ?_⟩
                          rintro _ _ ⟨rfl, rfl⟩
                          refine splitB.mk (fun h => absurd h (by decide)) (fun _ => ?_)
                          have e2 : IntKind.i64.wrap ((pos : Int) + (k : Int)) = ((pos + k : Nat) : Int) := by rw [w64] <;> omega
                          refine ⟨_, (add_ok s pos 0 4 v k [] [] (by omega)).mono (fun _ h hh => show h = LH s ((pos + k : Nat) : Int) 0 ([] ++ [Tk.mk 4 v [] pos]) from by rw [hh, e2]), ?_⟩
                          rintro _ _ rfl
                          exact ends_LH s _ 0 _ (LH_app _ _ _ _ _ _ _) hT.symm

theorem tokCons (s : List UInt8) (pos : Nat) (t : Tk) (ts : List Tk) (hn : ((t :: ts) : List Tk).length ≤ 800000) (hp : pos < s.length) (hs : s.length ≤ 100000) :
    ACall Tryd.prog 33 [.optr 0 0 0 0] (LH s pos 0 (t :: ts)) (fun _ h => h = tokH s pos (t :: ts)) := by
  have hdl : (s.drop pos).length = s.length - pos := by simp
  have ec : (s.drop pos).getD 0 0 = s.getD pos 0 := by rw [getD_drop, Nat.add_zero]
  refine ACall.of_vc tabL_ok mixed Tryd.func33 rfl (by kernel_rfl) _ _ _ rfl (by kernel_rfl) ?_
  refine ⟨rfl, rfl, rfl, rfl, rfl, rfl, ⟨by omega, by omega⟩, ?_⟩
  refine ⟨⟨by omega, by show (0 : Int) < ((s.drop pos).length : Int); omega⟩, ?_⟩
  refine splitB.mk (fun h26 => ?_) (fun h26 => ?_)
  · have q26 : (s.getD pos 0).toNat = 32 := by have q : (((s.drop pos).getD 0 0).toNat : Int) = 32 := eq_of_beq h26; rw [ec] at q; omega
    iterate 9 refine splitB.mk (fun _ => ?_) (fun h => absurd h (by decide))
    have hw : isWs (s.getD pos 0) := by unfold isWs; omega
    have hT : tokH s pos (t :: ts) = LH s ((pos + 1 : Nat) : Int) 0 (t :: ts) := by unfold tokH; rw [if_pos hw]
    refine ⟨rfl, rfl, rfl, rfl, rfl, rfl, ?_⟩
    exact ⟨[0, 1], .junk, LH s ((pos + 1 : Nat) : Int) 0 (t :: ts), by simp, (show 2 ≤ 2 by decide), .junk _, ⟨⟨fun _ => ⟨rfl, rfl⟩, rfl, rfl, rfl, fun i hi => by obtain rfl : i = 0 := (by omega); exact ⟨.str_eq rfl, .int_eq (by rw [w64] <;> omega), .own_eq rfl ⟨_, _, _, _, rfl⟩ ⟨_, _, _, _, rfl⟩ rfl rfl, .int_eq (rfl), trivial⟩⟩, ⟨fun _ => ⟨rfl, rfl⟩, rfl, rfl, rfl, fun i hi => ⟨.int_eq rfl, .int_eq rfl, .str_eq rfl, .int_eq rfl, trivial⟩⟩, trivial⟩, by rw [hT]⟩
  · have n26 : ¬ (s.getD pos 0).toNat = 32 := by have q : (((s.drop pos).getD 0 0).toNat : Int) ≠ 32 := ne_of_beq_false h26; rw [ec] at q; omega
    iterate 2 refine splitB.mk (fun h => absurd h (by decide)) (fun _ => ?_)
    refine splitB.mk (fun h30 => ?_) (fun h30 => ?_)
    · have q30 : (s.getD pos 0).toNat = 9 := by have q : (((s.drop pos).getD 0 0).toNat : Int) = 9 := eq_of_beq h30; rw [ec] at q; omega
      iterate 6 refine splitB.mk (fun _ => ?_) (fun h => absurd h (by decide))
      have hw : isWs (s.getD pos 0) := by unfold isWs; omega
      have hT : tokH s pos (t :: ts) = LH s ((pos + 1 : Nat) : Int) 0 (t :: ts) := by unfold tokH; rw [if_pos hw]
      refine ⟨rfl, rfl, rfl, rfl, rfl, rfl, ?_⟩
      exact ⟨[0, 1], .junk, LH s ((pos + 1 : Nat) : Int) 0 (t :: ts), by simp, (show 2 ≤ 2 by decide), .junk _, ⟨⟨fun _ => ⟨rfl, rfl⟩, rfl, rfl, rfl, fun i hi => by obtain rfl : i = 0 := (by omega); exact ⟨.str_eq rfl, .int_eq (by rw [w64] <;> omega), .own_eq rfl ⟨_, _, _, _, rfl⟩ ⟨_, _, _, _, rfl⟩ rfl rfl, .int_eq (rfl), trivial⟩⟩, ⟨fun _ => ⟨rfl, rfl⟩, rfl, rfl, rfl, fun i hi => ⟨.int_eq rfl, .int_eq rfl, .str_eq rfl, .int_eq rfl, trivial⟩⟩, trivial⟩, by rw [hT]⟩
    · have n30 : ¬ (s.getD pos 0).toNat = 9 := by have q : (((s.drop pos).getD 0 0).toNat : Int) ≠ 9 := ne_of_beq_false h30; rw [ec] at q; omega
      iterate 2 refine splitB.mk (fun h => absurd h (by decide)) (fun _ => ?_)
      refine splitB.mk (fun h34 => ?_) (fun h34 => ?_)
      · have q34 : (s.getD pos 0).toNat = 10 := by have q : (((s.drop pos).getD 0 0).toNat : Int) = 10 := eq_of_beq h34; rw [ec] at q; omega
        iterate 3 refine splitB.mk (fun _ => ?_) (fun h => absurd h (by decide))
        have hw : isWs (s.getD pos 0) := by unfold isWs; omega
        have hT : tokH s pos (t :: ts) = LH s ((pos + 1 : Nat) : Int) 0 (t :: ts) := by unfold tokH; rw [if_pos hw]
        refine ⟨rfl, rfl, rfl, rfl, rfl, rfl, ?_⟩
        exact ⟨[0, 1], .junk, LH s ((pos + 1 : Nat) : Int) 0 (t :: ts), by simp, (show 2 ≤ 2 by decide), .junk _, ⟨⟨fun _ => ⟨rfl, rfl⟩, rfl, rfl, rfl, fun i hi => by obtain rfl : i = 0 := (by omega); exact ⟨.str_eq rfl, .int_eq (by rw [w64] <;> omega), .own_eq rfl ⟨_, _, _, _, rfl⟩ ⟨_, _, _, _, rfl⟩ rfl rfl, .int_eq (rfl), trivial⟩⟩, ⟨fun _ => ⟨rfl, rfl⟩, rfl, rfl, rfl, fun i hi => ⟨.int_eq rfl, .int_eq rfl, .str_eq rfl, .int_eq rfl, trivial⟩⟩, trivial⟩, by rw [hT]⟩
      · have n34 : ¬ (s.getD pos 0).toNat = 10 := by have q : (((s.drop pos).getD 0 0).toNat : Int) ≠ 10 := ne_of_beq_false h34; rw [ec] at q; omega
        iterate 2 refine splitB.mk (fun h => absurd h (by decide)) (fun _ => ?_)
        refine splitB.mk (fun h23 => ?_) (fun h23 => ?_)
        · have q23 : (s.getD pos 0).toNat = 13 := by have q : (((s.drop pos).getD 0 0).toNat : Int) = 13 := eq_of_beq h23; rw [ec] at q; omega
          have hw : isWs (s.getD pos 0) := by unfold isWs; omega
          have hT : tokH s pos (t :: ts) = LH s ((pos + 1 : Nat) : Int) 0 (t :: ts) := by unfold tokH; rw [if_pos hw]
          refine ⟨rfl, rfl, rfl, rfl, rfl, rfl, ?_⟩
          exact ⟨[0, 1], .junk, LH s ((pos + 1 : Nat) : Int) 0 (t :: ts), by simp, (show 2 ≤ 2 by decide), .junk _, ⟨⟨fun _ => ⟨rfl, rfl⟩, rfl, rfl, rfl, fun i hi => by obtain rfl : i = 0 := (by omega); exact ⟨.str_eq rfl, .int_eq (by rw [w64] <;> omega), .own_eq rfl ⟨_, _, _, _, rfl⟩ ⟨_, _, _, _, rfl⟩ rfl rfl, .int_eq (rfl), trivial⟩⟩, ⟨fun _ => ⟨rfl, rfl⟩, rfl, rfl, rfl, fun i hi => ⟨.int_eq rfl, .int_eq rfl, .str_eq rfl, .int_eq rfl, trivial⟩⟩, trivial⟩, by rw [hT]⟩
        · have n23 : ¬ (s.getD pos 0).toNat = 13 := by have q : (((s.drop pos).getD 0 0).toNat : Int) ≠ 13 := ne_of_beq_false h23; rw [ec] at q; omega
          have hw : ¬ isWs (s.getD pos 0) := by unfold isWs; omega
          refine ⟨_, hasPrefix_ok _ _ _, ?_⟩
          rintro _ _ ⟨rfl, rfl⟩
          refine splitB.mk (fun h45 => ?_) (fun h45 => ?_)
          · have h45 : Lib.hasPrefix (s.drop pos) [63, 62] = true := h45
            have hl2 : pos + 2 ≤ s.length := by have := pre_len h45; simp at this; omega
            have hT : tokH s pos (t :: ts) = inlH s (semiEnd s pos) ((t :: ts) ++ [Tk.mk 6 0 [59] pos]) := by unfold tokH; rw [if_neg hw, if_pos h45]
            have e2 : IntKind.i64.wrap ((pos : Int) + 2) = ((pos + 2 : Nat) : Int) := by rw [w64] <;> omega
            refine ⟨_, (add_ok s pos 0 6 0 2 [59] (t :: ts) (by omega)).mono (fun _ h hh => show h = LH s ((pos + 2 : Nat) : Int) 0 (t :: ts ++ [Tk.mk 6 0 [59] pos]) by rw [hh, e2] <;> rfl), ?_⟩
            rintro _ _ rfl
            iterate 6 refine ⟨rfl, ?_⟩
            refine splitB.mk (fun h60 => ?_) (fun h60 => ?_)
            · have h60 : pos + 2 < s.length := by have q := of_decide_eq_true h60; omega
              refine splitB.mk (fun _ => ?_) (fun h => absurd h (by decide))
              refine ⟨rfl, ?_⟩
              refine splitB.mk (fun _ => ?_) (fun h => absurd h (by decide))
              refine ⟨rfl, ?_⟩
              refine splitB.mk (fun _ => ?_) (fun h => absurd h (by decide))
              refine ⟨rfl, ?_⟩
              iterate 2 refine splitB.mk (fun _ => ?_) (fun h => absurd h (by decide))
              refine ⟨rfl, ?_⟩
              refine splitB.mk (fun _ => ?_) (fun h => absurd h (by decide))
              refine ⟨rfl, ?_⟩
              refine splitB.mk (fun _ => ?_) (fun h => absurd h (by decide))
              refine ⟨rfl, ?_⟩
              refine splitB.mk (fun _ => ?_) (fun h => absurd h (by decide))
              refine ⟨⟨by first | omega | (simp only; omega), by first | omega | (simp only; omega)⟩, ?_⟩
              iterate 2 refine splitB.mk (fun _ => ?_) (fun h => absurd h (by decide))
              refine splitB.mk (fun h71 => ?_) (fun h71 => ?_)
              · have h71 : (s.getD (pos + 2) 0).toNat = 10 := by have q : (((s.getD (pos + 2) 0).toNat : Nat) : Int) = 10 := eq_of_beq h71; omega
                have hE : semiEnd s pos = pos + 3 := by unfold semiEnd; rw [if_pos ⟨h60, h71⟩]
                rw [hE] at hT
                refine ⟨rfl, rfl, rfl, rfl, rfl, rfl, ?_⟩
                have e3 : IntKind.i64.wrap (((pos + 2 : Nat) : Int) + 1) = ((pos + 3 : Nat) : Int) := by rw [w64] <;> omega
                refine ⟨_, (inl_ok s (pos + 3) (t :: ts ++ [Tk.mk 6 0 [59] pos]) (by simp at hn ⊢ <;> omega) (by omega) hs).heq ⟨⟨rfl, rfl, rfl, rfl, fun i hi => by obtain rfl : i = 0 := (by omega); show [PV.str s, .int .i64 (IntKind.i64.wrap (((pos + 2 : Nat) : Int) + 1)), _, .int .i64 0] = _; rw [e3]⟩, ⟨rfl, rfl, rfl, rfl, fun _ _ => rfl⟩, trivial⟩, ?_⟩
                rintro _ _ rfl
                exact ends_inl s pos (pos + 3) (t :: ts) _ hT.symm
              · have h71 : ¬ (s.getD (pos + 2) 0).toNat = 10 := by have q : (((s.getD (pos + 2) 0).toNat : Nat) : Int) ≠ 10 := ne_of_beq_false h71; omega
                have hE : semiEnd s pos = pos + 2 := by unfold semiEnd; first | rw [if_neg (fun h => h60 h.1)] | rw [if_neg (fun h => h71 h.2)]
                rw [hE] at hT
                refine ⟨_, inl_ok s (pos + 2) (t :: ts ++ [Tk.mk 6 0 [59] pos]) (by simp at hn ⊢ <;> omega) (by omega) hs, ?_⟩
                rintro _ _ rfl
                exact ends_inl s pos (pos + 2) (t :: ts) _ hT.symm
            · have h60 : ¬ pos + 2 < s.length := by have q := of_decide_eq_false h60; omega
              iterate 11 refine splitB.mk (fun h => absurd h (by decide)) (fun _ => ?_)
              have hE : semiEnd s pos = pos + 2 := by unfold semiEnd; first | rw [if_neg (fun h => h60 h.1)] | rw [if_neg (fun h => h71 h.2)]
              rw [hE] at hT
              refine ⟨_, inl_ok s (pos + 2) (t :: ts ++ [Tk.mk 6 0 [59] pos]) (by simp at hn ⊢ <;> omega) (by omega) hs, ?_⟩
              rintro _ _ rfl
              exact ends_inl s pos (pos + 2) (t :: ts) _ hT.symm
          · have h45 : Lib.hasPrefix (s.drop pos) [63, 62] = false := h45
            refine ⟨_, hasPrefix_ok _ _ _, ?_⟩
            rintro _ _ ⟨rfl, rfl⟩
            refine splitB.mk (fun h81 => ?_) (fun h81 => ?_)
            · have h81 : Lib.hasPrefix (s.drop pos) [47, 47] = true := h81
              have hT : tokH s pos (t :: ts) = LH s ((pos + cm (s.drop pos) : Nat) : Int) 0 (t :: ts) := by unfold tokH; rw [if_neg hw, if_neg (by rw [h45]; decide), if_pos h81]
              have hcl := cm_le (s.drop pos)
              refine LoopVC.mk Nat (fun k => [(0, .optr 0 0 0 0)]) (fun k => [lexO s (((pos + k : Nat) : Int)) (.own 1 ts.length 0 (ts.length + 1)) 0, .row ts.length 4 (ts.length + 1) 33 (fun i => (tkAt (t :: ts) i).cells)]) (fun k => k ≤ cm (s.drop pos)) (fun k => cm (s.drop pos) - k) 0 (Nat.zero_le _) ?_ (fun k hk => ?_)
              · exact ⟨[0, 1], by simp, (show 2 ≤ 2 by decide), ⟨.optr_eq rfl ⟨_, _, _, _, rfl⟩ ⟨_, _, _, _, rfl⟩ rfl rfl, trivial⟩, ⟨⟨fun _ => ⟨rfl, rfl⟩, rfl, rfl, rfl, fun i hi => by obtain rfl : i = 0 := (by omega); exact ⟨.str_eq rfl, .int_eq (rfl), .own_eq rfl ⟨_, _, _, _, rfl⟩ ⟨_, _, _, _, rfl⟩ rfl rfl, .int_eq (rfl), trivial⟩⟩, ⟨fun _ => ⟨rfl, rfl⟩, rfl, rfl, rfl, fun i hi => ⟨.int_eq rfl, .int_eq rfl, .str_eq rfl, .int_eq rfl, trivial⟩⟩, trivial⟩⟩
              · have hc := cm_lt (s.drop pos) k hk
                obtain ⟨b, hb⟩ : ∃ b, Lib.hasPrefix (s.drop (pos + k)) [63, 62] = b := ⟨_, rfl⟩
                have cp := hasPrefix_ok (s.drop (pos + k)) [63, 62] []
                rw [hb] at cp
                refine DrawVC.quietC ?_
                iterate 6 refine ⟨rfl, ?_⟩
                refine splitB.mk (fun h94 => ?_) (fun h94 => ?_)
                · have h94 : pos + k < s.length := by have q := of_decide_eq_true h94; omega
                  refine splitB.mk (fun _ => ?_) (fun h => absurd h (by decide))
                  refine ⟨rfl, ?_⟩
                  refine splitB.mk (fun _ => ?_) (fun h => absurd h (by decide))
                  refine ⟨rfl, ?_⟩
                  refine splitB.mk (fun _ => ?_) (fun h => absurd h (by decide))
                  refine ⟨rfl, ?_⟩
                  iterate 2 refine splitB.mk (fun _ => ?_) (fun h => absurd h (by decide))
                  refine ⟨rfl, ?_⟩
                  refine splitB.mk (fun _ => ?_) (fun h => absurd h (by decide))
                  refine ⟨rfl, ?_⟩
                  refine splitB.mk (fun _ => ?_) (fun h => absurd h (by decide))
                  refine ⟨rfl, ?_⟩
                  refine splitB.mk (fun _ => ?_) (fun h => absurd h (by decide))
                  refine ⟨⟨by first | omega | (simp only; omega), by first | omega | (simp only; omega)⟩, ?_⟩
                  iterate 2 refine splitB.mk (fun _ => ?_) (fun h => absurd h (by decide))
                  refine splitB.mk (fun h106 => ?_) (fun h106 => ?_)
                  · have h106 : ¬ (s.getD (pos + k) 0).toNat = 10 := bneT _ 10 h106
                    refine splitB.mk (fun _ => ?_) (fun h => absurd h (by decide))
                    refine ⟨rfl, ?_⟩
                    refine splitB.mk (fun _ => ?_) (fun h => absurd h (by decide))
                    refine ⟨rfl, ?_⟩
                    refine splitB.mk (fun _ => ?_) (fun h => absurd h (by decide))
                    refine ⟨rfl, ?_⟩
                    iterate 2 refine splitB.mk (fun _ => ?_) (fun h => absurd h (by decide))
                    refine ⟨rfl, ?_⟩
                    refine splitB.mk (fun _ => ?_) (fun h => absurd h (by decide))
                    refine ⟨rfl, ?_⟩
                    refine splitB.mk (fun _ => ?_) (fun h => absurd h (by decide))
                    refine ⟨rfl, ?_⟩
                    refine splitB.mk (fun _ => ?_) (fun h => absurd h (by decide))
                    refine ⟨⟨by omega, by omega⟩, ?_⟩ -- SLICE slice 9 t110 (some t114) none none
                    refine splitB.mk (fun _ => ?_) (fun h => absurd h (by decide))
                    refine ⟨[.str (s.drop (pos + k)), .str [63, 62]], .bool b, ⟨.str_eq rfl, .str_eq rfl, trivial⟩, rfl, (cp).mono (fun _ _ h => h.1), ?_⟩
                    iterate 2 refine splitB.mk (fun _ => ?_) (fun h => absurd h (by decide))
                    refine splitB.mk (fun h118 => ?_) (fun h118 => ?_)
                    · have hb0 : b = false := by cases b; rfl; cases h118
                      subst hb0
                      have hlt : k < cm (s.drop pos) := hc.2 ⟨by omega, by rw [getD_drop]; exact h106, by rw [List.drop_drop]; exact hb⟩
                      refine ⟨rfl, rfl, rfl, rfl, rfl, rfl, ?_⟩
                      exact ⟨k + 1, hlt, by simp only; omega, [0, 1], by simp, (show 2 ≤ 2 by decide), ⟨.optr_eq rfl ⟨_, _, _, _, rfl⟩ ⟨_, _, _, _, rfl⟩ rfl rfl, trivial⟩, ⟨⟨fun _ => ⟨rfl, rfl⟩, rfl, rfl, rfl, fun i hi => by obtain rfl : i = 0 := (by omega); exact ⟨.str_eq rfl, .int_eq (by rw [w64] <;> omega), .own_eq rfl ⟨_, _, _, _, rfl⟩ ⟨_, _, _, _, rfl⟩ rfl rfl, .int_eq (rfl), trivial⟩⟩, ⟨fun _ => ⟨rfl, rfl⟩, rfl, rfl, rfl, fun i hi => ⟨.int_eq rfl, .int_eq rfl, .str_eq rfl, .int_eq rfl, trivial⟩⟩, trivial⟩⟩
                    · have hb0 : b = true := by cases b; cases h118; rfl
                      have hns : ¬ k < cm (s.drop pos) := fun hlt => by have hq := hc.1 hlt; rw [getD_drop, List.drop_drop] at hq; first | exact h94 (by have := hq.1; omega) | exact hq.2.1 h106 | (subst hb0; rw [hb] at hq; exact absurd hq.2.2 (by decide))
                      have hk2 : cm (s.drop pos) = k := by omega
                      rw [hk2] at hT
                      exact ⟨[0, 1], .junk, LH s ((pos + k : Nat) : Int) 0 (t :: ts), by simp, (show 2 ≤ 2 by decide), .junk _, ⟨⟨fun _ => ⟨rfl, rfl⟩, rfl, rfl, rfl, fun i hi => by obtain rfl : i = 0 := (by omega); exact ⟨.str_eq rfl, .int_eq (rfl), .own_eq rfl ⟨_, _, _, _, rfl⟩ ⟨_, _, _, _, rfl⟩ rfl rfl, .int_eq (rfl), trivial⟩⟩, ⟨fun _ => ⟨rfl, rfl⟩, rfl, rfl, rfl, fun i hi => ⟨.int_eq rfl, .int_eq rfl, .str_eq rfl, .int_eq rfl, trivial⟩⟩, trivial⟩, by rw [hT]⟩
                  · have h106 : (s.getD (pos + k) 0).toNat = 10 := bneF _ 10 h106
                    iterate 12 refine splitB.mk (fun h => absurd h (by decide)) (fun _ => ?_)
                    have hns : ¬ k < cm (s.drop pos) := fun hlt => by have hq := hc.1 hlt; rw [getD_drop, List.drop_drop] at hq; first | exact h94 (by have := hq.1; omega) | exact hq.2.1 h106 | (subst hb0; rw [hb] at hq; exact absurd hq.2.2 (by decide))
                    have hk2 : cm (s.drop pos) = k := by omega
                    rw [hk2] at hT
                    exact ⟨[0, 1], .junk, LH s ((pos + k : Nat) : Int) 0 (t :: ts), by simp, (show 2 ≤ 2 by decide), .junk _, ⟨⟨fun _ => ⟨rfl, rfl⟩, rfl, rfl, rfl, fun i hi => by obtain rfl : i = 0 := (by omega); exact ⟨.str_eq rfl, .int_eq (rfl), .own_eq rfl ⟨_, _, _, _, rfl⟩ ⟨_, _, _, _, rfl⟩ rfl rfl, .int_eq (rfl), trivial⟩⟩, ⟨fun _ => ⟨rfl, rfl⟩, rfl, rfl, rfl, fun i hi => ⟨.int_eq rfl, .int_eq rfl, .str_eq rfl, .int_eq rfl, trivial⟩⟩, trivial⟩, by rw [hT]⟩
                · have h94 : ¬ pos + k < s.length := by have q := of_decide_eq_false h94; omega
                  iterate 23 refine splitB.mk (fun h => absurd h (by decide)) (fun _ => ?_)
                  have hns : ¬ k < cm (s.drop pos) := fun hlt => by have hq := hc.1 hlt; rw [getD_drop, List.drop_drop] at hq; first | exact h94 (by have := hq.1; omega) | exact hq.2.1 h106 | (subst hb0; rw [hb] at hq; exact absurd hq.2.2 (by decide))
                  have hk2 : cm (s.drop pos) = k := by omega
                  rw [hk2] at hT
                  exact ⟨[0, 1], .junk, LH s ((pos + k : Nat) : Int) 0 (t :: ts), by simp, (show 2 ≤ 2 by decide), .junk _, ⟨⟨fun _ => ⟨rfl, rfl⟩, rfl, rfl, rfl, fun i hi => by obtain rfl : i = 0 := (by omega); exact ⟨.str_eq rfl, .int_eq (rfl), .own_eq rfl ⟨_, _, _, _, rfl⟩ ⟨_, _, _, _, rfl⟩ rfl rfl, .int_eq (rfl), trivial⟩⟩, ⟨fun _ => ⟨rfl, rfl⟩, rfl, rfl, rfl, fun i hi => ⟨.int_eq rfl, .int_eq rfl, .str_eq rfl, .int_eq rfl, trivial⟩⟩, trivial⟩, by rw [hT]⟩
            · have h81 : Lib.hasPrefix (s.drop pos) [47, 47] = false := h81
              refine splitB.mk (fun h126 => ?_) (fun h126 => ?_)
              · have q36 : (s.getD pos 0).toNat = 36 := by rw [← ec]; exact eqT _ 36 h126
                obtain ⟨n, hnl⟩ : ∃ n, nameLen ((s.drop pos).drop 1) = n := ⟨_, rfl⟩
                have hnle : n ≤ s.length - pos - 1 := by rw [← hnl]; have q := cnt_le pName ((s.drop pos).drop 1) 0; simp only [List.length_drop] at q; exact q
                have hT : tokH s pos (t :: ts) = (if n = 0 then LH s pos 2 (t :: ts) else LH s ((pos + (1 + n) : Nat) : Int) 0 ((t :: ts) ++ [Tk.mk 2 0 (((s.drop pos).take (1 + n)).drop 1) pos])) := by unfold tokH; rw [if_neg hw, if_neg (by rw [h45]; decide), if_neg (by rw [h81]; decide), if_pos q36, hnl]
                have cn := nameLength_ok ((s.drop pos).drop 1) (by simp only [List.length_drop]; omega)
                rw [hnl] at cn
                refine ⟨⟨by omega, (show (1 : Int) ≤ ((s.drop pos).length : Int) by omega)⟩, ?_⟩
                refine ⟨_, cn.frame0 _ rfl (fun _ => rfl), ?_⟩
                rintro _ _ ⟨rfl, rfl⟩
                refine splitB.mk (fun h133 => ?_) (fun h133 => ?_)
                · have hz : n = 0 := eqT n 0 h133
                  rw [if_pos hz] at hT
                  refine ⟨rfl, rfl, rfl, ?_⟩
                  exact ⟨[0, 1], .junk, LH s pos 2 (t :: ts), by simp, (show 2 ≤ 2 by decide), .junk _, ⟨⟨fun _ => ⟨rfl, rfl⟩, rfl, rfl, rfl, fun i hi => by obtain rfl : i = 0 := (by omega); exact ⟨.str_eq rfl, .int_eq (rfl), .own_eq rfl ⟨_, _, _, _, rfl⟩ ⟨_, _, _, _, rfl⟩ rfl rfl, .int_eq (rfl), trivial⟩⟩, ⟨fun _ => ⟨rfl, rfl⟩, rfl, rfl, rfl, fun i hi => ⟨.int_eq rfl, .int_eq rfl, .str_eq rfl, .int_eq rfl, trivial⟩⟩, trivial⟩, by rw [hT]⟩
                · have hz : ¬ n = 0 := eqF n 0 h133
                  rw [if_neg hz] at hT
                  have e1 : IntKind.i64.wrap (1 + (n : Int)) = ((1 + n : Nat) : Int) := by rw [w64] <;> omega
                  have e2 : IntKind.i64.wrap ((pos : Int) + ((1 + n : Nat) : Int)) = ((pos + (1 + n) : Nat) : Int) := by rw [w64] <;> omega
                  refine ⟨⟨by omega, (show (1 : Int) ≤ IntKind.i64.wrap (1 + (n : Int)) by rw [e1]; omega), (show IntKind.i64.wrap (1 + (n : Int)) ≤ ((s.drop pos).length : Int) by rw [e1]; omega)⟩, ?_⟩
                  refine ⟨_, (add_ok s pos 0 2 0 (IntKind.i64.wrap (1 + (n : Int))) (((s.drop pos).take (IntKind.i64.wrap (1 + (n : Int))).toNat).drop 1) (t :: ts) (by omega)).mono (fun _ h hh => show h = LH s ((pos + (1 + n) : Nat) : Int) 0 ((t :: ts) ++ [Tk.mk 2 0 (((s.drop pos).take (1 + n)).drop 1) pos]) from by rw [hh, e1, e2]; rfl), ?_⟩
                  rintro _ _ rfl
                  exact ends_LH s _ 0 _ (LH_app _ _ _ _ _ _ _) hT.symm
              · have q36 : ¬ (s.getD pos 0).toNat = 36 := by rw [← ec]; exact eqF _ 36 h126
                obtain ⟨n, hnl⟩ : ∃ n, nameLen (s.drop pos) = n := ⟨_, rfl⟩
                have hnle : n ≤ s.length - pos := by rw [← hnl]; have q := cnt_le pName (s.drop pos) 0; simp only [List.length_drop] at q; exact q
                have cn := nameLength_ok (s.drop pos) (by omega)
                rw [hnl] at cn
                refine ⟨_, cn.frame0 _ rfl (fun _ => rfl), ?_⟩
                rintro _ _ ⟨rfl, rfl⟩
                refine splitB.mk (fun h145 => ?_) (fun h145 => ?_)
                · have hz : 0 < n := by have q := of_decide_eq_true h145; omega
                  have hT : tokH s pos (t :: ts) = LH s ((pos + n : Nat) : Int) 0 ((t :: ts) ++ [Tk.mk 3 0 ((s.drop pos).take n) pos]) := by unfold tokH; rw [if_neg hw, if_neg (by rw [h45]; decide), if_neg (by rw [h81]; decide), if_neg q36, hnl, if_pos hz]
                  refine ⟨_, cn.frame0 _ rfl (fun _ => rfl), ?_⟩
                  rintro _ _ ⟨rfl, rfl⟩
                  refine ⟨⟨by omega, (show (n : Int) ≤ ((s.drop pos).length : Int) by omega)⟩, ?_⟩
                  have e2 : IntKind.i64.wrap ((pos : Int) + (n : Int)) = ((pos + n : Nat) : Int) := by rw [w64] <;> omega
                  refine ⟨_, (add_ok s pos 0 3 0 n ((s.drop pos).take n) (t :: ts) (by omega)).mono (fun _ h hh => show h = LH s ((pos + n : Nat) : Int) 0 ((t :: ts) ++ [Tk.mk 3 0 ((s.drop pos).take n) pos]) from by rw [hh, e2]), ?_⟩
                  rintro _ _ rfl
                  exact ends_LH s _ 0 _ (LH_app _ _ _ _ _ _ _) hT.symm
                · have hz : ¬ 0 < n := by have q := of_decide_eq_false h145; omega
                  obtain ⟨b, hb⟩ : ∃ b, dig (s.getD pos 0) = b := ⟨_, rfl⟩
                  have cd : ACall Tryd.prog 68 [.int .u8 ((s.drop pos).getD 0 0).toNat] [] (fun res h => res = .bool b ∧ h = []) := by have q := isDigit_ok ((s.drop pos).getD 0 0); rw [show dig ((s.drop pos).getD 0 0) = b by rw [ec]; exact hb] at q; exact q
                  refine ⟨_, cd.frame0 _ rfl (fun _ => rfl), ?_⟩
                  rintro _ _ ⟨rfl, rfl⟩
                  cases b with
                  | false =>
                    refine splitB.mk (fun h => absurd h (by decide)) (fun _ => ?_)
                    have hnd : ¬ dig (s.getD pos 0) = true := by rw [hb]; decide
                    refine splitB.mk (fun h188 => ?_) (fun h188 => ?_)
                    · have q39 : (s.getD pos 0).toNat = 39 := by rw [← ec]; exact eqT _ 39 h188
                      have hT : tokH s pos (t :: ts) = textH s pos (t :: ts) (strGo ((s.drop pos).drop 1) [] 1) := by unfold tokH; rw [if_neg hw, if_neg (by rw [h45]; decide), if_neg (by rw [h81]; decide), if_neg q36, hnl, if_neg hz, if_neg hnd, if_pos q39]
                      refine ⟨_, text_ok s pos (t :: ts) (by omega) (s.drop pos) (by omega), ?_⟩
                      rintro _ _ rfl
                      exact ends_text s pos (t :: ts) _ hT.symm
                    · have q39 : ¬ (s.getD pos 0).toNat = 39 := by rw [← ec]; exact eqF _ 39 h188
                      have hT : tokH s pos (t :: ts) = markH s pos (t :: ts) (marksI.find? fun m => Lib.hasPrefix (s.drop pos) m) := by unfold tokH; rw [if_neg hw, if_neg (by rw [h45]; decide), if_neg (by rw [h81]; decide), if_neg q36, hnl, if_neg hz, if_neg hnd, if_neg q39]
                      refine ⟨_, mark_ok s pos (t :: ts) (by omega) (s.drop pos), ?_⟩
                      rintro _ _ rfl
                      exact ends_mark s pos (t :: ts) _ hT.symm
                  | true =>
                    refine splitB.mk (fun _ => ?_) (fun h => absurd h (by decide))
                    have hT : tokH s pos (t :: ts) = numH s pos (t :: ts) (digLen (s.drop pos)) (pw ((s.drop pos).take (digLen (s.drop pos))) (-1000000000) 1000000000) := by unfold tokH; rw [if_neg hw, if_neg (by rw [h45]; decide), if_neg (by rw [h81]; decide), if_neg q36, hnl, if_neg hz, if_pos hb]
                    have hdle : digLen (s.drop pos) ≤ (s.drop pos).length := cnt_le _ _ 0
                    refine LoopVC.mk Nat (fun k => [(0, .optr 0 0 0 0), (2, .str (s.drop pos)), (6, .int .i64 k)]) (fun k => LH s pos 0 (t :: ts)) (fun k => k ≤ digLen (s.drop pos)) (fun k => digLen (s.drop pos) - k) 0 (Nat.zero_le _) ?_ (fun k hk => ?_)
                    · exact ⟨[0, 1], by simp, (show 2 ≤ 2 by decide), ⟨.optr_eq rfl ⟨_, _, _, _, rfl⟩ ⟨_, _, _, _, rfl⟩ rfl rfl, .str_eq rfl, .int_eq rfl, trivial⟩, ⟨⟨fun _ => ⟨rfl, rfl⟩, rfl, rfl, rfl, fun i hi => by obtain rfl : i = 0 := (by omega); exact ⟨.str_eq rfl, .int_eq (rfl), .own_eq rfl ⟨_, _, _, _, rfl⟩ ⟨_, _, _, _, rfl⟩ rfl rfl, .int_eq (rfl), trivial⟩⟩, ⟨fun _ => ⟨rfl, rfl⟩, rfl, rfl, rfl, fun i hi => ⟨.int_eq rfl, .int_eq rfl, .str_eq rfl, .int_eq rfl, trivial⟩⟩, trivial⟩⟩
                    · have hc := cnt_lt (fun _ c => dig c) (s.drop pos) 0 k hk
                      obtain ⟨b2, hb2⟩ : ∃ b2, dig ((s.drop pos).getD k 0) = b2 := ⟨_, rfl⟩
                      have cd2 := isDigit_ok ((s.drop pos).getD k 0)
                      rw [hb2] at cd2
                      refine splitB.mk (fun h164 => ?_) (fun h164 => ?_)
                      · have h163 : k < (s.drop pos).length := by have q := of_decide_eq_true h164; omega
                        iterate 2 refine splitB.mk (fun _ => ?_) (fun h => absurd h (by decide))
                        refine ⟨⟨by first | omega | (simp only; omega), by first | omega | (simp only; omega)⟩, ?_⟩
                        refine splitB.mk (fun _ => ?_) (fun h => absurd h (by decide))
                        refine ⟨_, cd2.frame0 _ rfl (fun _ => rfl), ?_⟩
                        rintro _ _ ⟨rfl, rfl⟩
                        refine splitB.mk (fun _ => ?_) (fun h => absurd h (by decide))
                        refine splitB.mk (fun h169 => ?_) (fun h169 => ?_)
                        · have hlt : k < digLen (s.drop pos) := hc.2 ⟨h163, by show dig ((s.drop pos).getD k 0) = true; rw [hb2]; exact h169⟩
                          exact ⟨k + 1, hlt, by simp only; omega, [0, 1], by simp, (show 2 ≤ 2 by decide), ⟨.optr_eq rfl ⟨_, _, _, _, rfl⟩ ⟨_, _, _, _, rfl⟩ rfl rfl, .str_eq rfl, .int_eq (by rw [w64] <;> omega), trivial⟩, ⟨⟨fun _ => ⟨rfl, rfl⟩, rfl, rfl, rfl, fun i hi => by obtain rfl : i = 0 := (by omega); exact ⟨.str_eq rfl, .int_eq (rfl), .own_eq rfl ⟨_, _, _, _, rfl⟩ ⟨_, _, _, _, rfl⟩ rfl rfl, .int_eq (rfl), trivial⟩⟩, ⟨fun _ => ⟨rfl, rfl⟩, rfl, rfl, rfl, fun i hi => ⟨.int_eq rfl, .int_eq rfl, .str_eq rfl, .int_eq rfl, trivial⟩⟩, trivial⟩⟩
                        · have hns : ¬ k < digLen (s.drop pos) := fun hlt => by have hq := hc.1 hlt; first | exact h163 hq.1 | (have q2 : dig ((s.drop pos).getD k 0) = true := hq.2; rw [hb2, h169] at q2; cases q2)
                          have hk2 : digLen (s.drop pos) = k := by omega
                          rw [hk2] at hT
                          obtain ⟨o, ho⟩ : ∃ o, pw ((s.drop pos).take k) (-1000000000) 1000000000 = o := ⟨_, rfl⟩
                          have cs := parseSigned_ok ((s.drop pos).take k) (LH s pos 0 (t :: ts))
                          rw [ho] at cs hT
                          refine ⟨⟨by omega, by omega⟩, ?_⟩
                          cases o with
                          | none =>
                            refine ⟨_, cs, ?_⟩
                            rintro _ _ ⟨rfl, rfl⟩
                            refine splitB.mk (fun _ => ?_) (fun h => absurd h (by decide))
                            refine ⟨rfl, rfl, rfl, ?_⟩
                            exact ⟨[0, 1], .junk, LH s pos 4 (t :: ts), by simp, (show 2 ≤ 2 by decide), .junk _, ⟨⟨fun _ => ⟨rfl, rfl⟩, rfl, rfl, rfl, fun i hi => by obtain rfl : i = 0 := (by omega); exact ⟨.str_eq rfl, .int_eq (rfl), .own_eq rfl ⟨_, _, _, _, rfl⟩ ⟨_, _, _, _, rfl⟩ rfl rfl, .int_eq (rfl), trivial⟩⟩, ⟨fun _ => ⟨rfl, rfl⟩, rfl, rfl, rfl, fun i hi => ⟨.int_eq rfl, .int_eq rfl, .str_eq rfl, .int_eq rfl, trivial⟩⟩, trivial⟩, by rw [hT] <;> rfl⟩
                          | some v =>
                            refine ⟨_, cs, ?_⟩
                            rintro _ _ ⟨rfl, rfl⟩
                            refine splitB.mk (fun h => absurd h (by decide)) (fun _ => ?_)
                            have e2 : IntKind.i64.wrap ((pos : Int) + (k : Int)) = ((pos + k : Nat) : Int) := by rw [w64] <;> omega
                            refine ⟨_, (add_ok s pos 0 4 v k [] (t :: ts) (by omega)).mono (fun _ h hh => show h = LH s ((pos + k : Nat) : Int) 0 ((t :: ts) ++ [Tk.mk 4 v [] pos]) from by rw [hh, e2]), ?_⟩
                            rintro _ _ rfl
                            exact ends_LH s _ 0 _ (LH_app _ _ _ _ _ _ _) hT.symm
                      · have h163 : ¬ k < (s.drop pos).length := by have q := of_decide_eq_false h164; omega
                        iterate 5 refine splitB.mk (fun h => absurd h (by decide)) (fun _ => ?_)
                        have hns : ¬ k < digLen (s.drop pos) := fun hlt => by have hq := hc.1 hlt; first | exact h163 hq.1 | (have q2 : dig ((s.drop pos).getD k 0) = true := hq.2; rw [hb2, h169] at q2; cases q2)
                        have hk2 : digLen (s.drop pos) = k := by omega
                        rw [hk2] at hT
                        obtain ⟨o, ho⟩ : ∃ o, pw ((s.drop pos).take k) (-1000000000) 1000000000 = o := ⟨_, rfl⟩
                        have cs := parseSigned_ok ((s.drop pos).take k) (LH s pos 0 (t :: ts))
                        rw [ho] at cs hT
                        refine ⟨⟨by omega, by omega⟩, ?_⟩
                        cases o with
                        | none =>
                          refine ⟨_, cs, ?_⟩
                          rintro _ _ ⟨rfl, rfl⟩
                          refine splitB.mk (fun _ => ?_) (fun h => absurd h (by decide))
                          refine ⟨rfl, rfl, rfl, ?_⟩
                          exact ⟨[0, 1], .junk, LH s pos 4 (t :: ts), by simp, (show 2 ≤ 2 by decide), .junk _, ⟨⟨fun _ => ⟨rfl, rfl⟩, rfl, rfl, rfl, fun i hi => by obtain rfl : i = 0 := (by omega); exact ⟨.str_eq rfl, .int_eq (rfl), .own_eq rfl ⟨_, _, _, _, rfl⟩ ⟨_, _, _, _, rfl⟩ rfl rfl, .int_eq (rfl), trivial⟩⟩, ⟨fun _ => ⟨rfl, rfl⟩, rfl, rfl, rfl, fun i hi => ⟨.int_eq rfl, .int_eq rfl, .str_eq rfl, .int_eq rfl, trivial⟩⟩, trivial⟩, by rw [hT] <;> rfl⟩
                        | some v =>
                          refine ⟨_, cs, ?_⟩
                          rintro _ _ ⟨rfl, rfl⟩
                          refine splitB.mk (fun h => absurd h (by decide)) (fun _ => ?_)
                          have e2 : IntKind.i64.wrap ((pos : Int) + (k : Int)) = ((pos + k : Nat) : Int) := by rw [w64] <;> omega
                          refine ⟨_, (add_ok s pos 0 4 v k [] (t :: ts) (by omega)).mono (fun _ h hh => show h = LH s ((pos + k : Nat) : Int) 0 ((t :: ts) ++ [Tk.mk 4 v [] pos]) from by rw [hh, e2]), ?_⟩
                          rintro _ _ rfl
                          exact ends_LH s _ 0 _ (LH_app _ _ _ _ _ _ _) hT.symm

theorem token_ok (s : List UInt8) (pos : Nat) (ts : List Tk) (hn : ts.length ≤ 800000) (hp : pos < s.length) (hs : s.length ≤ 100000) :
    ACall Tryd.prog 33 [.optr 0 0 0 0] (LH s pos 0 ts) (fun _ h => h = tokH s pos ts) := by
  cases ts with
  | nil => exact tokNil s pos hn hp hs
  | cons t ts => exact tokCons s pos t ts hn hp hs

end Go.Am
