/- The plain law, second part: reserved words and instructions. (Printed by gen_p2.py.) -/
import Derived.Test.YtnehfdofoemnfaaP1
set_option linter.unusedVariables false
set_option linter.unusedSimpArgs false
set_option maxRecDepth 100000
namespace Go.Am
open Go Go.RowKit Go.Proofs
def resv : List Str := [[101, 99, 104, 111], [105, 102], [101, 108, 115, 101], [119, 104, 105, 108, 101], [102, 111, 114, 101, 97, 99, 104], [97, 115], [98, 114, 101, 97, 107], [99, 111, 110, 116, 105, 110, 117, 101], [114, 101, 116, 117, 114, 110], [103, 108, 111, 98, 97, 108], [117, 110, 115, 101, 116], [116, 104, 114, 111, 119], [116, 114, 121], [99, 97, 116, 99, 104], [102, 105, 110, 97, 108, 108, 121], [121, 105, 101, 108, 100], [105, 110, 99, 108, 117, 100, 101], [102, 117, 110, 99, 116, 105, 111, 110], [99, 108, 97, 115, 115], [116, 114, 97, 105, 116], [101, 120, 116, 101, 110, 100, 115], [117, 115, 101], [112, 114, 105, 118, 97, 116, 101], [115, 116, 97, 116, 105, 99], [110, 101, 119], [116, 114, 117, 101], [102, 97, 108, 115, 101], [110, 117, 108, 108]]
theorem resv_go (s : Str) : ∀ (f k : Nat), resv.length ≤ k + f → m_s_IsReserved_L2 s (k : Int) = some (if (resv.drop k).any (fun x => decide (s = x)) then .inr true else .inl ())
 | f, k, h => by
  rw [m_s_IsReserved_L2]
  change (if (k : Int) < (resv.length : Int) then idx resv (k : Int) >>= _ else _) = _
  by_cases hc : k < resv.length
  ·have hl : resv.length = 28 := rfl
   rw [if_pos (by omega), idx_nat hc, sb, w_succ (by omega), List.drop_eq_getElem_cons hc, List.any_cons]
   by_cases he : resv[k] = s
   ·rw [if_pos he, if_pos (by rw [← he]; simp)]
   ·obtain ⟨g, rfl⟩ : ∃ g, f = g + 1 := ⟨f - 1, by omega⟩
    rw [if_neg he, resv_go s g (k + 1) (by omega), decide_eq_false (fun h => he h.symm), Bool.false_or]
  ·rw [if_neg (by omega), List.drop_eq_nil_of_le (by omega)]; rfl
theorem or_step {s x : Str} {b : Bool} {z : Option Bool} (h : z = some b) : (if s = x then some true else z) = some (decide (s = x) || b) := by
 subst h
 by_cases h : s = x
 ·rw [if_pos h, decide_eq_true h, Bool.true_or]
 ·rw [if_neg h, decide_eq_false h, Bool.false_or]
theorem sRes_eq (s : Str) : m_s_IsReserved s = some (resv.any fun x => decide (s = x)) := by
 unfold m_s_IsReserved
 have := resv_go s resv.length 0 (by omega)
 rw [show ((0 : Nat) : Int) = 0 from rfl, List.drop_zero] at this
 rw [this, sb]
 cases hc : resv.any (fun x => decide (s = x))
 ·rfl
 ·rfl
theorem iRes_eq (s : Str) : m_i_IsReserved s = some (resv.any fun x => decide (s = x)) := by
 have e : resv.any (fun x => decide (s = x)) = (decide (s = ([101, 99, 104, 111] : Str)) || (decide (s = ([105, 102] : Str)) || (decide (s = ([101, 108, 115, 101] : Str)) || (decide (s = ([119, 104, 105, 108, 101] : Str)) || (decide (s = ([102, 111, 114, 101, 97, 99, 104] : Str)) || (decide (s = ([97, 115] : Str)) || (decide (s = ([98, 114, 101, 97, 107] : Str)) || (decide (s = ([99, 111, 110, 116, 105, 110, 117, 101] : Str)) || (decide (s = ([114, 101, 116, 117, 114, 110] : Str)) || (decide (s = ([103, 108, 111, 98, 97, 108] : Str)) || (decide (s = ([117, 110, 115, 101, 116] : Str)) || (decide (s = ([116, 104, 114, 111, 119] : Str)) || (decide (s = ([116, 114, 121] : Str)) || (decide (s = ([99, 97, 116, 99, 104] : Str)) || (decide (s = ([102, 105, 110, 97, 108, 108, 121] : Str)) || (decide (s = ([121, 105, 101, 108, 100] : Str)) || (decide (s = ([105, 110, 99, 108, 117, 100, 101] : Str)) || (decide (s = ([102, 117, 110, 99, 116, 105, 111, 110] : Str)) || (decide (s = ([99, 108, 97, 115, 115] : Str)) || (decide (s = ([116, 114, 97, 105, 116] : Str)) || (decide (s = ([101, 120, 116, 101, 110, 100, 115] : Str)) || (decide (s = ([117, 115, 101] : Str)) || (decide (s = ([112, 114, 105, 118, 97, 116, 101] : Str)) || (decide (s = ([115, 116, 97, 116, 105, 99] : Str)) || (decide (s = ([110, 101, 119] : Str)) || (decide (s = ([116, 114, 117, 101] : Str)) || (decide (s = ([102, 97, 108, 115, 101] : Str)) || (decide (s = ([110, 117, 108, 108] : Str)) || false)))))))))))))))))))))))))))) := rfl
 rw [e]
 unfold m_i_IsReserved
 exact (or_step (or_step (or_step (or_step (or_step (or_step (or_step (or_step (or_step (or_step (or_step (or_step (or_step (or_step (or_step (or_step (or_step (or_step (or_step (or_step (or_step (or_step (or_step (or_step (or_step (or_step (or_step (or_step rfl))))))))))))))))))))))))))))
theorem good_eq (s : Str) : ∃ b, m_i_goodName s = some b ∧ m_s_l15Name s = some b := by
 obtain ⟨b, h1, h2⟩ := isName_eq s
 unfold m_i_goodName m_s_l15Name
 rw [h1, h2, sb, sb, iRes_eq, sRes_eq]
 cases b
 ·exact ⟨_, rfl, rfl⟩
 ·exact ⟨_, rfl, rfl⟩
theorem t_bind {α β : Type} {x : Option α} {f : α → Option β} (h1 : ∃ a, x = some a) (h2 : ∀ a, ∃ b, f a = some b) : ∃ b, (x >>= f) = some b := by
 obtain ⟨a, rfl⟩ := h1
 exact h2 a
theorem t_ite {α : Type} {c : Prop} [Decidable c] {x y : Option α} (h1 : ∃ a, x = some a) (h2 : ∃ a, y = some a) : ∃ a, (if c then x else y) = some a := by
 by_cases h : c
 ·rw [if_pos h]; exact h1
 ·rw [if_neg h]; exact h2
theorem tgt_ex (n : Int) : ∃ b, m_i_HasTarget n = some b := by
 unfold m_i_HasTarget
 repeat first | exact ⟨_, rfl⟩ | refine t_ite ?_ ?_
theorem slot_ex (n : Int) : ∃ b, m_s_l25Slot n = some b := by
 unfold m_s_l25Slot
 repeat first | exact ⟨_, rfl⟩ | refine t_ite ?_ ?_
theorem text_ex (n : Int) : ∃ b, m_s_l25Text n = some b := by
 unfold m_s_l25Text
 repeat first | exact ⟨_, rfl⟩ | refine t_ite ?_ ?_ | refine t_bind ?_ (fun _ => ?_)
theorem fin_ex (n : Int) : ∃ b, m_i_IsFinal n = some b := by
 unfold m_i_IsFinal
 repeat first | exact ⟨_, rfl⟩ | refine t_ite ?_ ?_
theorem tch_ex (n : Int) : ∃ b, m_i_TargetChange n = some b := by
 unfold m_i_TargetChange
 repeat first | exact ⟨_, rfl⟩ | refine t_ite ?_ ?_
theorem need_ex (x : TIns) : ∃ b, m_i_InsNeed x = some b := by
 unfold m_i_InsNeed
 repeat first | exact ⟨_, rfl⟩ | refine t_ite ?_ ?_ | refine t_bind ?_ (fun _ => ?_)
theorem chg_ex (x : TIns) : ∃ b, m_i_InsChange x = some b := by
 unfold m_i_InsChange
 repeat first | exact ⟨_, rfl⟩ | refine t_ite ?_ ?_ | refine t_bind ?_ (fun _ => ?_)
def tgt (n : Int) : Bool := (m_i_HasTarget n).getD false
def fin (n : Int) : Bool := (m_i_IsFinal n).getD false
def tch (n : Int) : Int := (m_i_TargetChange n).getD 0
def need (x : TIns) : Int := (m_i_InsNeed x).getD 0
def chg (x : TIns) : Int := (m_i_InsChange x).getD 0
theorem iTgt (n : Int) : m_i_HasTarget n = some (tgt n) := by obtain ⟨b, h⟩ := tgt_ex n; rw [tgt, h]; rfl
theorem iFin (n : Int) : m_i_IsFinal n = some (fin n) := by obtain ⟨b, h⟩ := fin_ex n; rw [fin, h]; rfl
theorem iTch (n : Int) : m_i_TargetChange n = some (tch n) := by obtain ⟨b, h⟩ := tch_ex n; rw [tch, h]; rfl
theorem iNeed (x : TIns) : m_i_InsNeed x = some (need x) := by obtain ⟨b, h⟩ := need_ex x; rw [need, h]; rfl
theorem iChg (x : TIns) : m_i_InsChange x = some (chg x) := by obtain ⟨b, h⟩ := chg_ex x; rw [chg, h]; rfl
theorem sTgt (n : Int) : m_s_HasTarget n = some (tgt n) := (show m_s_HasTarget n = m_i_HasTarget n by unfold m_s_HasTarget m_i_HasTarget; rfl).trans (iTgt n)
theorem sFin (n : Int) : m_s_IsFinal n = some (fin n) := (show m_s_IsFinal n = m_i_IsFinal n by unfold m_s_IsFinal m_i_IsFinal; rfl).trans (iFin n)
theorem sTch (n : Int) : m_s_TargetChange n = some (tch n) := (show m_s_TargetChange n = m_i_TargetChange n by unfold m_s_TargetChange m_i_TargetChange; rfl).trans (iTch n)
theorem sNeed (x : TIns) : m_s_InsNeed x = some (need x) := (show m_s_InsNeed x = m_i_InsNeed x by unfold m_s_InsNeed m_i_InsNeed; rfl).trans (iNeed x)
theorem sChg (x : TIns) : m_s_InsChange x = some (chg x) := (show m_s_InsChange x = m_i_InsChange x by unfold m_s_InsChange m_i_InsChange; rfl).trans (iChg x)
theorem ins_1 (A B : Int) (S T : Str) (a b : Int) (gs gt : Bool) (e1 : m_i_goodName S = some gs) (e2 : m_s_l15Name S = some gs) (e3 : m_i_goodName T = some gt) (e4 : m_s_l15Name T = some gt) :
  ∃ v, m_i_IsIns ⟨1, A, B, S, T⟩ a b = some v ∧ m_s_IsIns ⟨1, A, B, S, T⟩ a b = some v := by
 simp only [m_i_IsIns, m_s_IsIns, m_i_knownOp, m_i_operandA, m_i_operandB, m_i_slotOp, m_i_HasTarget, m_s_HasTarget, m_s_l25Slot, m_s_l25Text, range_eq, l1In_eq, e1, e2, e3, e4, sb]
 simp [sb]
 repeat' split
 all_goals simp_all
 all_goals (try omega)
 all_goals (by_cases hT : T = [] <;> by_cases h1 : A < a <;> by_cases h2 : B < a <;> by_cases h3 : A < b <;> first | (simp_all; done) | omega | (simp_all; omega))
theorem ins_2 (A B : Int) (S T : Str) (a b : Int) (gs gt : Bool) (e1 : m_i_goodName S = some gs) (e2 : m_s_l15Name S = some gs) (e3 : m_i_goodName T = some gt) (e4 : m_s_l15Name T = some gt) :
  ∃ v, m_i_IsIns ⟨2, A, B, S, T⟩ a b = some v ∧ m_s_IsIns ⟨2, A, B, S, T⟩ a b = some v := by
 simp only [m_i_IsIns, m_s_IsIns, m_i_knownOp, m_i_operandA, m_i_operandB, m_i_slotOp, m_i_HasTarget, m_s_HasTarget, m_s_l25Slot, m_s_l25Text, range_eq, l1In_eq, e1, e2, e3, e4, sb]
 simp [sb]
 repeat' split
 all_goals simp_all
 all_goals (try omega)
 all_goals (by_cases hT : T = [] <;> by_cases h1 : A < a <;> by_cases h2 : B < a <;> by_cases h3 : A < b <;> first | (simp_all; done) | omega | (simp_all; omega))
theorem ins_3 (A B : Int) (S T : Str) (a b : Int) (gs gt : Bool) (e1 : m_i_goodName S = some gs) (e2 : m_s_l15Name S = some gs) (e3 : m_i_goodName T = some gt) (e4 : m_s_l15Name T = some gt) :
  ∃ v, m_i_IsIns ⟨3, A, B, S, T⟩ a b = some v ∧ m_s_IsIns ⟨3, A, B, S, T⟩ a b = some v := by
 simp only [m_i_IsIns, m_s_IsIns, m_i_knownOp, m_i_operandA, m_i_operandB, m_i_slotOp, m_i_HasTarget, m_s_HasTarget, m_s_l25Slot, m_s_l25Text, range_eq, l1In_eq, e1, e2, e3, e4, sb]
 simp [sb]
 repeat' split
 all_goals simp_all
 all_goals (try omega)
 all_goals (by_cases hT : T = [] <;> by_cases h1 : A < a <;> by_cases h2 : B < a <;> by_cases h3 : A < b <;> first | (simp_all; done) | omega | (simp_all; omega))
theorem ins_4 (A B : Int) (S T : Str) (a b : Int) (gs gt : Bool) (e1 : m_i_goodName S = some gs) (e2 : m_s_l15Name S = some gs) (e3 : m_i_goodName T = some gt) (e4 : m_s_l15Name T = some gt) :
  ∃ v, m_i_IsIns ⟨4, A, B, S, T⟩ a b = some v ∧ m_s_IsIns ⟨4, A, B, S, T⟩ a b = some v := by
 simp only [m_i_IsIns, m_s_IsIns, m_i_knownOp, m_i_operandA, m_i_operandB, m_i_slotOp, m_i_HasTarget, m_s_HasTarget, m_s_l25Slot, m_s_l25Text, range_eq, l1In_eq, e1, e2, e3, e4, sb]
 simp [sb]
 repeat' split
 all_goals simp_all
 all_goals (try omega)
 all_goals (by_cases hT : T = [] <;> by_cases h1 : A < a <;> by_cases h2 : B < a <;> by_cases h3 : A < b <;> first | (simp_all; done) | omega | (simp_all; omega))
theorem ins_5 (A B : Int) (S T : Str) (a b : Int) (gs gt : Bool) (e1 : m_i_goodName S = some gs) (e2 : m_s_l15Name S = some gs) (e3 : m_i_goodName T = some gt) (e4 : m_s_l15Name T = some gt) :
  ∃ v, m_i_IsIns ⟨5, A, B, S, T⟩ a b = some v ∧ m_s_IsIns ⟨5, A, B, S, T⟩ a b = some v := by
 simp only [m_i_IsIns, m_s_IsIns, m_i_knownOp, m_i_operandA, m_i_operandB, m_i_slotOp, m_i_HasTarget, m_s_HasTarget, m_s_l25Slot, m_s_l25Text, range_eq, l1In_eq, e1, e2, e3, e4, sb]
 simp [sb]
 repeat' split
 all_goals simp_all
 all_goals (try omega)
 all_goals (by_cases hT : T = [] <;> by_cases h1 : A < a <;> by_cases h2 : B < a <;> by_cases h3 : A < b <;> first | (simp_all; done) | omega | (simp_all; omega))
theorem ins_6 (A B : Int) (S T : Str) (a b : Int) (gs gt : Bool) (e1 : m_i_goodName S = some gs) (e2 : m_s_l15Name S = some gs) (e3 : m_i_goodName T = some gt) (e4 : m_s_l15Name T = some gt) :
  ∃ v, m_i_IsIns ⟨6, A, B, S, T⟩ a b = some v ∧ m_s_IsIns ⟨6, A, B, S, T⟩ a b = some v := by
 simp only [m_i_IsIns, m_s_IsIns, m_i_knownOp, m_i_operandA, m_i_operandB, m_i_slotOp, m_i_HasTarget, m_s_HasTarget, m_s_l25Slot, m_s_l25Text, range_eq, l1In_eq, e1, e2, e3, e4, sb]
 simp [sb]
 repeat' split
 all_goals simp_all
 all_goals (try omega)
 all_goals (by_cases hT : T = [] <;> by_cases h1 : A < a <;> by_cases h2 : B < a <;> by_cases h3 : A < b <;> first | (simp_all; done) | omega | (simp_all; omega))
theorem ins_7 (A B : Int) (S T : Str) (a b : Int) (gs gt : Bool) (e1 : m_i_goodName S = some gs) (e2 : m_s_l15Name S = some gs) (e3 : m_i_goodName T = some gt) (e4 : m_s_l15Name T = some gt) :
  ∃ v, m_i_IsIns ⟨7, A, B, S, T⟩ a b = some v ∧ m_s_IsIns ⟨7, A, B, S, T⟩ a b = some v := by
 simp only [m_i_IsIns, m_s_IsIns, m_i_knownOp, m_i_operandA, m_i_operandB, m_i_slotOp, m_i_HasTarget, m_s_HasTarget, m_s_l25Slot, m_s_l25Text, range_eq, l1In_eq, e1, e2, e3, e4, sb]
 simp [sb]
 repeat' split
 all_goals simp_all
 all_goals (try omega)
 all_goals (by_cases hT : T = [] <;> by_cases h1 : A < a <;> by_cases h2 : B < a <;> by_cases h3 : A < b <;> first | (simp_all; done) | omega | (simp_all; omega))
theorem ins_8 (A B : Int) (S T : Str) (a b : Int) (gs gt : Bool) (e1 : m_i_goodName S = some gs) (e2 : m_s_l15Name S = some gs) (e3 : m_i_goodName T = some gt) (e4 : m_s_l15Name T = some gt) :
  ∃ v, m_i_IsIns ⟨8, A, B, S, T⟩ a b = some v ∧ m_s_IsIns ⟨8, A, B, S, T⟩ a b = some v := by
 simp only [m_i_IsIns, m_s_IsIns, m_i_knownOp, m_i_operandA, m_i_operandB, m_i_slotOp, m_i_HasTarget, m_s_HasTarget, m_s_l25Slot, m_s_l25Text, range_eq, l1In_eq, e1, e2, e3, e4, sb]
 simp [sb]
 repeat' split
 all_goals simp_all
 all_goals (try omega)
 all_goals (by_cases hT : T = [] <;> by_cases h1 : A < a <;> by_cases h2 : B < a <;> by_cases h3 : A < b <;> first | (simp_all; done) | omega | (simp_all; omega))
theorem ins_9 (A B : Int) (S T : Str) (a b : Int) (gs gt : Bool) (e1 : m_i_goodName S = some gs) (e2 : m_s_l15Name S = some gs) (e3 : m_i_goodName T = some gt) (e4 : m_s_l15Name T = some gt) :
  ∃ v, m_i_IsIns ⟨9, A, B, S, T⟩ a b = some v ∧ m_s_IsIns ⟨9, A, B, S, T⟩ a b = some v := by
 simp only [m_i_IsIns, m_s_IsIns, m_i_knownOp, m_i_operandA, m_i_operandB, m_i_slotOp, m_i_HasTarget, m_s_HasTarget, m_s_l25Slot, m_s_l25Text, range_eq, l1In_eq, e1, e2, e3, e4, sb]
 simp [sb]
 repeat' split
 all_goals simp_all
 all_goals (try omega)
 all_goals (by_cases hT : T = [] <;> by_cases h1 : A < a <;> by_cases h2 : B < a <;> by_cases h3 : A < b <;> first | (simp_all; done) | omega | (simp_all; omega))
theorem ins_10 (A B : Int) (S T : Str) (a b : Int) (gs gt : Bool) (e1 : m_i_goodName S = some gs) (e2 : m_s_l15Name S = some gs) (e3 : m_i_goodName T = some gt) (e4 : m_s_l15Name T = some gt) :
  ∃ v, m_i_IsIns ⟨10, A, B, S, T⟩ a b = some v ∧ m_s_IsIns ⟨10, A, B, S, T⟩ a b = some v := by
 simp only [m_i_IsIns, m_s_IsIns, m_i_knownOp, m_i_operandA, m_i_operandB, m_i_slotOp, m_i_HasTarget, m_s_HasTarget, m_s_l25Slot, m_s_l25Text, range_eq, l1In_eq, e1, e2, e3, e4, sb]
 simp [sb]
 repeat' split
 all_goals simp_all
 all_goals (try omega)
 all_goals (by_cases hT : T = [] <;> by_cases h1 : A < a <;> by_cases h2 : B < a <;> by_cases h3 : A < b <;> first | (simp_all; done) | omega | (simp_all; omega))
theorem ins_11 (A B : Int) (S T : Str) (a b : Int) (gs gt : Bool) (e1 : m_i_goodName S = some gs) (e2 : m_s_l15Name S = some gs) (e3 : m_i_goodName T = some gt) (e4 : m_s_l15Name T = some gt) :
  ∃ v, m_i_IsIns ⟨11, A, B, S, T⟩ a b = some v ∧ m_s_IsIns ⟨11, A, B, S, T⟩ a b = some v := by
 simp only [m_i_IsIns, m_s_IsIns, m_i_knownOp, m_i_operandA, m_i_operandB, m_i_slotOp, m_i_HasTarget, m_s_HasTarget, m_s_l25Slot, m_s_l25Text, range_eq, l1In_eq, e1, e2, e3, e4, sb]
 simp [sb]
 repeat' split
 all_goals simp_all
 all_goals (try omega)
 all_goals (by_cases hT : T = [] <;> by_cases h1 : A < a <;> by_cases h2 : B < a <;> by_cases h3 : A < b <;> first | (simp_all; done) | omega | (simp_all; omega))
theorem ins_12 (A B : Int) (S T : Str) (a b : Int) (gs gt : Bool) (e1 : m_i_goodName S = some gs) (e2 : m_s_l15Name S = some gs) (e3 : m_i_goodName T = some gt) (e4 : m_s_l15Name T = some gt) :
  ∃ v, m_i_IsIns ⟨12, A, B, S, T⟩ a b = some v ∧ m_s_IsIns ⟨12, A, B, S, T⟩ a b = some v := by
 simp only [m_i_IsIns, m_s_IsIns, m_i_knownOp, m_i_operandA, m_i_operandB, m_i_slotOp, m_i_HasTarget, m_s_HasTarget, m_s_l25Slot, m_s_l25Text, range_eq, l1In_eq, e1, e2, e3, e4, sb]
 simp [sb]
 repeat' split
 all_goals simp_all
 all_goals (try omega)
 all_goals (by_cases hT : T = [] <;> by_cases h1 : A < a <;> by_cases h2 : B < a <;> by_cases h3 : A < b <;> first | (simp_all; done) | omega | (simp_all; omega))
theorem ins_13 (A B : Int) (S T : Str) (a b : Int) (gs gt : Bool) (e1 : m_i_goodName S = some gs) (e2 : m_s_l15Name S = some gs) (e3 : m_i_goodName T = some gt) (e4 : m_s_l15Name T = some gt) :
  ∃ v, m_i_IsIns ⟨13, A, B, S, T⟩ a b = some v ∧ m_s_IsIns ⟨13, A, B, S, T⟩ a b = some v := by
 simp only [m_i_IsIns, m_s_IsIns, m_i_knownOp, m_i_operandA, m_i_operandB, m_i_slotOp, m_i_HasTarget, m_s_HasTarget, m_s_l25Slot, m_s_l25Text, range_eq, l1In_eq, e1, e2, e3, e4, sb]
 simp [sb]
 repeat' split
 all_goals simp_all
 all_goals (try omega)
 all_goals (by_cases hT : T = [] <;> by_cases h1 : A < a <;> by_cases h2 : B < a <;> by_cases h3 : A < b <;> first | (simp_all; done) | omega | (simp_all; omega))
theorem ins_14 (A B : Int) (S T : Str) (a b : Int) (gs gt : Bool) (e1 : m_i_goodName S = some gs) (e2 : m_s_l15Name S = some gs) (e3 : m_i_goodName T = some gt) (e4 : m_s_l15Name T = some gt) :
  ∃ v, m_i_IsIns ⟨14, A, B, S, T⟩ a b = some v ∧ m_s_IsIns ⟨14, A, B, S, T⟩ a b = some v := by
 simp only [m_i_IsIns, m_s_IsIns, m_i_knownOp, m_i_operandA, m_i_operandB, m_i_slotOp, m_i_HasTarget, m_s_HasTarget, m_s_l25Slot, m_s_l25Text, range_eq, l1In_eq, e1, e2, e3, e4, sb]
 simp [sb]
 repeat' split
 all_goals simp_all
 all_goals (try omega)
 all_goals (by_cases hT : T = [] <;> by_cases h1 : A < a <;> by_cases h2 : B < a <;> by_cases h3 : A < b <;> first | (simp_all; done) | omega | (simp_all; omega))
theorem ins_15 (A B : Int) (S T : Str) (a b : Int) (gs gt : Bool) (e1 : m_i_goodName S = some gs) (e2 : m_s_l15Name S = some gs) (e3 : m_i_goodName T = some gt) (e4 : m_s_l15Name T = some gt) :
  ∃ v, m_i_IsIns ⟨15, A, B, S, T⟩ a b = some v ∧ m_s_IsIns ⟨15, A, B, S, T⟩ a b = some v := by
 simp only [m_i_IsIns, m_s_IsIns, m_i_knownOp, m_i_operandA, m_i_operandB, m_i_slotOp, m_i_HasTarget, m_s_HasTarget, m_s_l25Slot, m_s_l25Text, range_eq, l1In_eq, e1, e2, e3, e4, sb]
 simp [sb]
 repeat' split
 all_goals simp_all
 all_goals (try omega)
 all_goals (by_cases hT : T = [] <;> by_cases h1 : A < a <;> by_cases h2 : B < a <;> by_cases h3 : A < b <;> first | (simp_all; done) | omega | (simp_all; omega))
theorem ins_16 (A B : Int) (S T : Str) (a b : Int) (gs gt : Bool) (e1 : m_i_goodName S = some gs) (e2 : m_s_l15Name S = some gs) (e3 : m_i_goodName T = some gt) (e4 : m_s_l15Name T = some gt) :
  ∃ v, m_i_IsIns ⟨16, A, B, S, T⟩ a b = some v ∧ m_s_IsIns ⟨16, A, B, S, T⟩ a b = some v := by
 simp only [m_i_IsIns, m_s_IsIns, m_i_knownOp, m_i_operandA, m_i_operandB, m_i_slotOp, m_i_HasTarget, m_s_HasTarget, m_s_l25Slot, m_s_l25Text, range_eq, l1In_eq, e1, e2, e3, e4, sb]
 simp [sb]
 repeat' split
 all_goals simp_all
 all_goals (try omega)
 all_goals (by_cases hT : T = [] <;> by_cases h1 : A < a <;> by_cases h2 : B < a <;> by_cases h3 : A < b <;> first | (simp_all; done) | omega | (simp_all; omega))
theorem ins_17 (A B : Int) (S T : Str) (a b : Int) (gs gt : Bool) (e1 : m_i_goodName S = some gs) (e2 : m_s_l15Name S = some gs) (e3 : m_i_goodName T = some gt) (e4 : m_s_l15Name T = some gt) :
  ∃ v, m_i_IsIns ⟨17, A, B, S, T⟩ a b = some v ∧ m_s_IsIns ⟨17, A, B, S, T⟩ a b = some v := by
 simp only [m_i_IsIns, m_s_IsIns, m_i_knownOp, m_i_operandA, m_i_operandB, m_i_slotOp, m_i_HasTarget, m_s_HasTarget, m_s_l25Slot, m_s_l25Text, range_eq, l1In_eq, e1, e2, e3, e4, sb]
 simp [sb]
 repeat' split
 all_goals simp_all
 all_goals (try omega)
 all_goals (by_cases hT : T = [] <;> by_cases h1 : A < a <;> by_cases h2 : B < a <;> by_cases h3 : A < b <;> first | (simp_all; done) | omega | (simp_all; omega))
theorem ins_18 (A B : Int) (S T : Str) (a b : Int) (gs gt : Bool) (e1 : m_i_goodName S = some gs) (e2 : m_s_l15Name S = some gs) (e3 : m_i_goodName T = some gt) (e4 : m_s_l15Name T = some gt) :
  ∃ v, m_i_IsIns ⟨18, A, B, S, T⟩ a b = some v ∧ m_s_IsIns ⟨18, A, B, S, T⟩ a b = some v := by
 simp only [m_i_IsIns, m_s_IsIns, m_i_knownOp, m_i_operandA, m_i_operandB, m_i_slotOp, m_i_HasTarget, m_s_HasTarget, m_s_l25Slot, m_s_l25Text, range_eq, l1In_eq, e1, e2, e3, e4, sb]
 simp [sb]
 repeat' split
 all_goals simp_all
 all_goals (try omega)
 all_goals (by_cases hT : T = [] <;> by_cases h1 : A < a <;> by_cases h2 : B < a <;> by_cases h3 : A < b <;> first | (simp_all; done) | omega | (simp_all; omega))
theorem ins_19 (A B : Int) (S T : Str) (a b : Int) (gs gt : Bool) (e1 : m_i_goodName S = some gs) (e2 : m_s_l15Name S = some gs) (e3 : m_i_goodName T = some gt) (e4 : m_s_l15Name T = some gt) :
  ∃ v, m_i_IsIns ⟨19, A, B, S, T⟩ a b = some v ∧ m_s_IsIns ⟨19, A, B, S, T⟩ a b = some v := by
 simp only [m_i_IsIns, m_s_IsIns, m_i_knownOp, m_i_operandA, m_i_operandB, m_i_slotOp, m_i_HasTarget, m_s_HasTarget, m_s_l25Slot, m_s_l25Text, range_eq, l1In_eq, e1, e2, e3, e4, sb]
 simp [sb]
 repeat' split
 all_goals simp_all
 all_goals (try omega)
 all_goals (by_cases hT : T = [] <;> by_cases h1 : A < a <;> by_cases h2 : B < a <;> by_cases h3 : A < b <;> first | (simp_all; done) | omega | (simp_all; omega))
theorem ins_20 (A B : Int) (S T : Str) (a b : Int) (gs gt : Bool) (e1 : m_i_goodName S = some gs) (e2 : m_s_l15Name S = some gs) (e3 : m_i_goodName T = some gt) (e4 : m_s_l15Name T = some gt) :
  ∃ v, m_i_IsIns ⟨20, A, B, S, T⟩ a b = some v ∧ m_s_IsIns ⟨20, A, B, S, T⟩ a b = some v := by
 simp only [m_i_IsIns, m_s_IsIns, m_i_knownOp, m_i_operandA, m_i_operandB, m_i_slotOp, m_i_HasTarget, m_s_HasTarget, m_s_l25Slot, m_s_l25Text, range_eq, l1In_eq, e1, e2, e3, e4, sb]
 simp [sb]
 repeat' split
 all_goals simp_all
 all_goals (try omega)
 all_goals (by_cases hT : T = [] <;> by_cases h1 : A < a <;> by_cases h2 : B < a <;> by_cases h3 : A < b <;> first | (simp_all; done) | omega | (simp_all; omega))
theorem ins_21 (A B : Int) (S T : Str) (a b : Int) (gs gt : Bool) (e1 : m_i_goodName S = some gs) (e2 : m_s_l15Name S = some gs) (e3 : m_i_goodName T = some gt) (e4 : m_s_l15Name T = some gt) :
  ∃ v, m_i_IsIns ⟨21, A, B, S, T⟩ a b = some v ∧ m_s_IsIns ⟨21, A, B, S, T⟩ a b = some v := by
 simp only [m_i_IsIns, m_s_IsIns, m_i_knownOp, m_i_operandA, m_i_operandB, m_i_slotOp, m_i_HasTarget, m_s_HasTarget, m_s_l25Slot, m_s_l25Text, range_eq, l1In_eq, e1, e2, e3, e4, sb]
 simp [sb]
 repeat' split
 all_goals simp_all
 all_goals (try omega)
 all_goals (by_cases hT : T = [] <;> by_cases h1 : A < a <;> by_cases h2 : B < a <;> by_cases h3 : A < b <;> first | (simp_all; done) | omega | (simp_all; omega))
theorem ins_22 (A B : Int) (S T : Str) (a b : Int) (gs gt : Bool) (e1 : m_i_goodName S = some gs) (e2 : m_s_l15Name S = some gs) (e3 : m_i_goodName T = some gt) (e4 : m_s_l15Name T = some gt) :
  ∃ v, m_i_IsIns ⟨22, A, B, S, T⟩ a b = some v ∧ m_s_IsIns ⟨22, A, B, S, T⟩ a b = some v := by
 simp only [m_i_IsIns, m_s_IsIns, m_i_knownOp, m_i_operandA, m_i_operandB, m_i_slotOp, m_i_HasTarget, m_s_HasTarget, m_s_l25Slot, m_s_l25Text, range_eq, l1In_eq, e1, e2, e3, e4, sb]
 simp [sb]
 repeat' split
 all_goals simp_all
 all_goals (try omega)
 all_goals (by_cases hT : T = [] <;> by_cases h1 : A < a <;> by_cases h2 : B < a <;> by_cases h3 : A < b <;> first | (simp_all; done) | omega | (simp_all; omega))
theorem ins_23 (A B : Int) (S T : Str) (a b : Int) (gs gt : Bool) (e1 : m_i_goodName S = some gs) (e2 : m_s_l15Name S = some gs) (e3 : m_i_goodName T = some gt) (e4 : m_s_l15Name T = some gt) :
  ∃ v, m_i_IsIns ⟨23, A, B, S, T⟩ a b = some v ∧ m_s_IsIns ⟨23, A, B, S, T⟩ a b = some v := by
 simp only [m_i_IsIns, m_s_IsIns, m_i_knownOp, m_i_operandA, m_i_operandB, m_i_slotOp, m_i_HasTarget, m_s_HasTarget, m_s_l25Slot, m_s_l25Text, range_eq, l1In_eq, e1, e2, e3, e4, sb]
 simp [sb]
 repeat' split
 all_goals simp_all
 all_goals (try omega)
 all_goals (by_cases hT : T = [] <;> by_cases h1 : A < a <;> by_cases h2 : B < a <;> by_cases h3 : A < b <;> first | (simp_all; done) | omega | (simp_all; omega))
theorem ins_24 (A B : Int) (S T : Str) (a b : Int) (gs gt : Bool) (e1 : m_i_goodName S = some gs) (e2 : m_s_l15Name S = some gs) (e3 : m_i_goodName T = some gt) (e4 : m_s_l15Name T = some gt) :
  ∃ v, m_i_IsIns ⟨24, A, B, S, T⟩ a b = some v ∧ m_s_IsIns ⟨24, A, B, S, T⟩ a b = some v := by
 simp only [m_i_IsIns, m_s_IsIns, m_i_knownOp, m_i_operandA, m_i_operandB, m_i_slotOp, m_i_HasTarget, m_s_HasTarget, m_s_l25Slot, m_s_l25Text, range_eq, l1In_eq, e1, e2, e3, e4, sb]
 simp [sb]
 repeat' split
 all_goals simp_all
 all_goals (try omega)
 all_goals (by_cases hT : T = [] <;> by_cases h1 : A < a <;> by_cases h2 : B < a <;> by_cases h3 : A < b <;> first | (simp_all; done) | omega | (simp_all; omega))
theorem ins_25 (A B : Int) (S T : Str) (a b : Int) (gs gt : Bool) (e1 : m_i_goodName S = some gs) (e2 : m_s_l15Name S = some gs) (e3 : m_i_goodName T = some gt) (e4 : m_s_l15Name T = some gt) :
  ∃ v, m_i_IsIns ⟨25, A, B, S, T⟩ a b = some v ∧ m_s_IsIns ⟨25, A, B, S, T⟩ a b = some v := by
 simp only [m_i_IsIns, m_s_IsIns, m_i_knownOp, m_i_operandA, m_i_operandB, m_i_slotOp, m_i_HasTarget, m_s_HasTarget, m_s_l25Slot, m_s_l25Text, range_eq, l1In_eq, e1, e2, e3, e4, sb]
 simp [sb]
 repeat' split
 all_goals simp_all
 all_goals (try omega)
 all_goals (by_cases hT : T = [] <;> by_cases h1 : A < a <;> by_cases h2 : B < a <;> by_cases h3 : A < b <;> first | (simp_all; done) | omega | (simp_all; omega))
theorem ins_26 (A B : Int) (S T : Str) (a b : Int) (gs gt : Bool) (e1 : m_i_goodName S = some gs) (e2 : m_s_l15Name S = some gs) (e3 : m_i_goodName T = some gt) (e4 : m_s_l15Name T = some gt) :
  ∃ v, m_i_IsIns ⟨26, A, B, S, T⟩ a b = some v ∧ m_s_IsIns ⟨26, A, B, S, T⟩ a b = some v := by
 simp only [m_i_IsIns, m_s_IsIns, m_i_knownOp, m_i_operandA, m_i_operandB, m_i_slotOp, m_i_HasTarget, m_s_HasTarget, m_s_l25Slot, m_s_l25Text, range_eq, l1In_eq, e1, e2, e3, e4, sb]
 simp [sb]
 repeat' split
 all_goals simp_all
 all_goals (try omega)
 all_goals (by_cases hT : T = [] <;> by_cases h1 : A < a <;> by_cases h2 : B < a <;> by_cases h3 : A < b <;> first | (simp_all; done) | omega | (simp_all; omega))
theorem ins_27 (A B : Int) (S T : Str) (a b : Int) (gs gt : Bool) (e1 : m_i_goodName S = some gs) (e2 : m_s_l15Name S = some gs) (e3 : m_i_goodName T = some gt) (e4 : m_s_l15Name T = some gt) :
  ∃ v, m_i_IsIns ⟨27, A, B, S, T⟩ a b = some v ∧ m_s_IsIns ⟨27, A, B, S, T⟩ a b = some v := by
 simp only [m_i_IsIns, m_s_IsIns, m_i_knownOp, m_i_operandA, m_i_operandB, m_i_slotOp, m_i_HasTarget, m_s_HasTarget, m_s_l25Slot, m_s_l25Text, range_eq, l1In_eq, e1, e2, e3, e4, sb]
 simp [sb]
 repeat' split
 all_goals simp_all
 all_goals (try omega)
 all_goals (by_cases hT : T = [] <;> by_cases h1 : A < a <;> by_cases h2 : B < a <;> by_cases h3 : A < b <;> first | (simp_all; done) | omega | (simp_all; omega))
theorem ins_28 (A B : Int) (S T : Str) (a b : Int) (gs gt : Bool) (e1 : m_i_goodName S = some gs) (e2 : m_s_l15Name S = some gs) (e3 : m_i_goodName T = some gt) (e4 : m_s_l15Name T = some gt) :
  ∃ v, m_i_IsIns ⟨28, A, B, S, T⟩ a b = some v ∧ m_s_IsIns ⟨28, A, B, S, T⟩ a b = some v := by
 simp only [m_i_IsIns, m_s_IsIns, m_i_knownOp, m_i_operandA, m_i_operandB, m_i_slotOp, m_i_HasTarget, m_s_HasTarget, m_s_l25Slot, m_s_l25Text, range_eq, l1In_eq, e1, e2, e3, e4, sb]
 simp [sb]
 repeat' split
 all_goals simp_all
 all_goals (try omega)
 all_goals (by_cases hT : T = [] <;> by_cases h1 : A < a <;> by_cases h2 : B < a <;> by_cases h3 : A < b <;> first | (simp_all; done) | omega | (simp_all; omega))
theorem ins_29 (A B : Int) (S T : Str) (a b : Int) (gs gt : Bool) (e1 : m_i_goodName S = some gs) (e2 : m_s_l15Name S = some gs) (e3 : m_i_goodName T = some gt) (e4 : m_s_l15Name T = some gt) :
  ∃ v, m_i_IsIns ⟨29, A, B, S, T⟩ a b = some v ∧ m_s_IsIns ⟨29, A, B, S, T⟩ a b = some v := by
 simp only [m_i_IsIns, m_s_IsIns, m_i_knownOp, m_i_operandA, m_i_operandB, m_i_slotOp, m_i_HasTarget, m_s_HasTarget, m_s_l25Slot, m_s_l25Text, range_eq, l1In_eq, e1, e2, e3, e4, sb]
 simp [sb]
 repeat' split
 all_goals simp_all
 all_goals (try omega)
 all_goals (by_cases hT : T = [] <;> by_cases h1 : A < a <;> by_cases h2 : B < a <;> by_cases h3 : A < b <;> first | (simp_all; done) | omega | (simp_all; omega))
theorem ins_30 (A B : Int) (S T : Str) (a b : Int) (gs gt : Bool) (e1 : m_i_goodName S = some gs) (e2 : m_s_l15Name S = some gs) (e3 : m_i_goodName T = some gt) (e4 : m_s_l15Name T = some gt) :
  ∃ v, m_i_IsIns ⟨30, A, B, S, T⟩ a b = some v ∧ m_s_IsIns ⟨30, A, B, S, T⟩ a b = some v := by
 simp only [m_i_IsIns, m_s_IsIns, m_i_knownOp, m_i_operandA, m_i_operandB, m_i_slotOp, m_i_HasTarget, m_s_HasTarget, m_s_l25Slot, m_s_l25Text, range_eq, l1In_eq, e1, e2, e3, e4, sb]
 simp [sb]
 repeat' split
 all_goals simp_all
 all_goals (try omega)
 all_goals (by_cases hT : T = [] <;> by_cases h1 : A < a <;> by_cases h2 : B < a <;> by_cases h3 : A < b <;> first | (simp_all; done) | omega | (simp_all; omega))
theorem ins_31 (A B : Int) (S T : Str) (a b : Int) (gs gt : Bool) (e1 : m_i_goodName S = some gs) (e2 : m_s_l15Name S = some gs) (e3 : m_i_goodName T = some gt) (e4 : m_s_l15Name T = some gt) :
  ∃ v, m_i_IsIns ⟨31, A, B, S, T⟩ a b = some v ∧ m_s_IsIns ⟨31, A, B, S, T⟩ a b = some v := by
 simp only [m_i_IsIns, m_s_IsIns, m_i_knownOp, m_i_operandA, m_i_operandB, m_i_slotOp, m_i_HasTarget, m_s_HasTarget, m_s_l25Slot, m_s_l25Text, range_eq, l1In_eq, e1, e2, e3, e4, sb]
 simp [sb]
 repeat' split
 all_goals simp_all
 all_goals (try omega)
 all_goals (by_cases hT : T = [] <;> by_cases h1 : A < a <;> by_cases h2 : B < a <;> by_cases h3 : A < b <;> first | (simp_all; done) | omega | (simp_all; omega))
theorem ins_32 (A B : Int) (S T : Str) (a b : Int) (gs gt : Bool) (e1 : m_i_goodName S = some gs) (e2 : m_s_l15Name S = some gs) (e3 : m_i_goodName T = some gt) (e4 : m_s_l15Name T = some gt) :
  ∃ v, m_i_IsIns ⟨32, A, B, S, T⟩ a b = some v ∧ m_s_IsIns ⟨32, A, B, S, T⟩ a b = some v := by
 simp only [m_i_IsIns, m_s_IsIns, m_i_knownOp, m_i_operandA, m_i_operandB, m_i_slotOp, m_i_HasTarget, m_s_HasTarget, m_s_l25Slot, m_s_l25Text, range_eq, l1In_eq, e1, e2, e3, e4, sb]
 simp [sb]
 repeat' split
 all_goals simp_all
 all_goals (try omega)
 all_goals (by_cases hT : T = [] <;> by_cases h1 : A < a <;> by_cases h2 : B < a <;> by_cases h3 : A < b <;> first | (simp_all; done) | omega | (simp_all; omega))
theorem ins_33 (A B : Int) (S T : Str) (a b : Int) (gs gt : Bool) (e1 : m_i_goodName S = some gs) (e2 : m_s_l15Name S = some gs) (e3 : m_i_goodName T = some gt) (e4 : m_s_l15Name T = some gt) :
  ∃ v, m_i_IsIns ⟨33, A, B, S, T⟩ a b = some v ∧ m_s_IsIns ⟨33, A, B, S, T⟩ a b = some v := by
 simp only [m_i_IsIns, m_s_IsIns, m_i_knownOp, m_i_operandA, m_i_operandB, m_i_slotOp, m_i_HasTarget, m_s_HasTarget, m_s_l25Slot, m_s_l25Text, range_eq, l1In_eq, e1, e2, e3, e4, sb]
 simp [sb]
 repeat' split
 all_goals simp_all
 all_goals (try omega)
 all_goals (by_cases hT : T = [] <;> by_cases h1 : A < a <;> by_cases h2 : B < a <;> by_cases h3 : A < b <;> first | (simp_all; done) | omega | (simp_all; omega))
theorem ins_34 (A B : Int) (S T : Str) (a b : Int) (gs gt : Bool) (e1 : m_i_goodName S = some gs) (e2 : m_s_l15Name S = some gs) (e3 : m_i_goodName T = some gt) (e4 : m_s_l15Name T = some gt) :
  ∃ v, m_i_IsIns ⟨34, A, B, S, T⟩ a b = some v ∧ m_s_IsIns ⟨34, A, B, S, T⟩ a b = some v := by
 simp only [m_i_IsIns, m_s_IsIns, m_i_knownOp, m_i_operandA, m_i_operandB, m_i_slotOp, m_i_HasTarget, m_s_HasTarget, m_s_l25Slot, m_s_l25Text, range_eq, l1In_eq, e1, e2, e3, e4, sb]
 simp [sb]
 repeat' split
 all_goals simp_all
 all_goals (try omega)
 all_goals (by_cases hT : T = [] <;> by_cases h1 : A < a <;> by_cases h2 : B < a <;> by_cases h3 : A < b <;> first | (simp_all; done) | omega | (simp_all; omega))
theorem ins_35 (A B : Int) (S T : Str) (a b : Int) (gs gt : Bool) (e1 : m_i_goodName S = some gs) (e2 : m_s_l15Name S = some gs) (e3 : m_i_goodName T = some gt) (e4 : m_s_l15Name T = some gt) :
  ∃ v, m_i_IsIns ⟨35, A, B, S, T⟩ a b = some v ∧ m_s_IsIns ⟨35, A, B, S, T⟩ a b = some v := by
 simp only [m_i_IsIns, m_s_IsIns, m_i_knownOp, m_i_operandA, m_i_operandB, m_i_slotOp, m_i_HasTarget, m_s_HasTarget, m_s_l25Slot, m_s_l25Text, range_eq, l1In_eq, e1, e2, e3, e4, sb]
 simp [sb]
 repeat' split
 all_goals simp_all
 all_goals (try omega)
 all_goals (by_cases hT : T = [] <;> by_cases h1 : A < a <;> by_cases h2 : B < a <;> by_cases h3 : A < b <;> first | (simp_all; done) | omega | (simp_all; omega))
theorem ins_36 (A B : Int) (S T : Str) (a b : Int) (gs gt : Bool) (e1 : m_i_goodName S = some gs) (e2 : m_s_l15Name S = some gs) (e3 : m_i_goodName T = some gt) (e4 : m_s_l15Name T = some gt) :
  ∃ v, m_i_IsIns ⟨36, A, B, S, T⟩ a b = some v ∧ m_s_IsIns ⟨36, A, B, S, T⟩ a b = some v := by
 simp only [m_i_IsIns, m_s_IsIns, m_i_knownOp, m_i_operandA, m_i_operandB, m_i_slotOp, m_i_HasTarget, m_s_HasTarget, m_s_l25Slot, m_s_l25Text, range_eq, l1In_eq, e1, e2, e3, e4, sb]
 simp [sb]
 repeat' split
 all_goals simp_all
 all_goals (try omega)
 all_goals (by_cases hT : T = [] <;> by_cases h1 : A < a <;> by_cases h2 : B < a <;> by_cases h3 : A < b <;> first | (simp_all; done) | omega | (simp_all; omega))
theorem ins_37 (A B : Int) (S T : Str) (a b : Int) (gs gt : Bool) (e1 : m_i_goodName S = some gs) (e2 : m_s_l15Name S = some gs) (e3 : m_i_goodName T = some gt) (e4 : m_s_l15Name T = some gt) :
  ∃ v, m_i_IsIns ⟨37, A, B, S, T⟩ a b = some v ∧ m_s_IsIns ⟨37, A, B, S, T⟩ a b = some v := by
 simp only [m_i_IsIns, m_s_IsIns, m_i_knownOp, m_i_operandA, m_i_operandB, m_i_slotOp, m_i_HasTarget, m_s_HasTarget, m_s_l25Slot, m_s_l25Text, range_eq, l1In_eq, e1, e2, e3, e4, sb]
 simp [sb]
 repeat' split
 all_goals simp_all
 all_goals (try omega)
 all_goals (by_cases hT : T = [] <;> by_cases h1 : A < a <;> by_cases h2 : B < a <;> by_cases h3 : A < b <;> first | (simp_all; done) | omega | (simp_all; omega))
theorem ins_38 (A B : Int) (S T : Str) (a b : Int) (gs gt : Bool) (e1 : m_i_goodName S = some gs) (e2 : m_s_l15Name S = some gs) (e3 : m_i_goodName T = some gt) (e4 : m_s_l15Name T = some gt) :
  ∃ v, m_i_IsIns ⟨38, A, B, S, T⟩ a b = some v ∧ m_s_IsIns ⟨38, A, B, S, T⟩ a b = some v := by
 simp only [m_i_IsIns, m_s_IsIns, m_i_knownOp, m_i_operandA, m_i_operandB, m_i_slotOp, m_i_HasTarget, m_s_HasTarget, m_s_l25Slot, m_s_l25Text, range_eq, l1In_eq, e1, e2, e3, e4, sb]
 simp [sb]
 repeat' split
 all_goals simp_all
 all_goals (try omega)
 all_goals (by_cases hT : T = [] <;> by_cases h1 : A < a <;> by_cases h2 : B < a <;> by_cases h3 : A < b <;> first | (simp_all; done) | omega | (simp_all; omega))
theorem ins_39 (A B : Int) (S T : Str) (a b : Int) (gs gt : Bool) (e1 : m_i_goodName S = some gs) (e2 : m_s_l15Name S = some gs) (e3 : m_i_goodName T = some gt) (e4 : m_s_l15Name T = some gt) :
  ∃ v, m_i_IsIns ⟨39, A, B, S, T⟩ a b = some v ∧ m_s_IsIns ⟨39, A, B, S, T⟩ a b = some v := by
 simp only [m_i_IsIns, m_s_IsIns, m_i_knownOp, m_i_operandA, m_i_operandB, m_i_slotOp, m_i_HasTarget, m_s_HasTarget, m_s_l25Slot, m_s_l25Text, range_eq, l1In_eq, e1, e2, e3, e4, sb]
 simp [sb]
 repeat' split
 all_goals simp_all
 all_goals (try omega)
 all_goals (by_cases hT : T = [] <;> by_cases h1 : A < a <;> by_cases h2 : B < a <;> by_cases h3 : A < b <;> first | (simp_all; done) | omega | (simp_all; omega))
theorem ins_40 (A B : Int) (S T : Str) (a b : Int) (gs gt : Bool) (e1 : m_i_goodName S = some gs) (e2 : m_s_l15Name S = some gs) (e3 : m_i_goodName T = some gt) (e4 : m_s_l15Name T = some gt) :
  ∃ v, m_i_IsIns ⟨40, A, B, S, T⟩ a b = some v ∧ m_s_IsIns ⟨40, A, B, S, T⟩ a b = some v := by
 simp only [m_i_IsIns, m_s_IsIns, m_i_knownOp, m_i_operandA, m_i_operandB, m_i_slotOp, m_i_HasTarget, m_s_HasTarget, m_s_l25Slot, m_s_l25Text, range_eq, l1In_eq, e1, e2, e3, e4, sb]
 simp [sb]
 repeat' split
 all_goals simp_all
 all_goals (try omega)
 all_goals (by_cases hT : T = [] <;> by_cases h1 : A < a <;> by_cases h2 : B < a <;> by_cases h3 : A < b <;> first | (simp_all; done) | omega | (simp_all; omega))
theorem ins_41 (A B : Int) (S T : Str) (a b : Int) (gs gt : Bool) (e1 : m_i_goodName S = some gs) (e2 : m_s_l15Name S = some gs) (e3 : m_i_goodName T = some gt) (e4 : m_s_l15Name T = some gt) :
  ∃ v, m_i_IsIns ⟨41, A, B, S, T⟩ a b = some v ∧ m_s_IsIns ⟨41, A, B, S, T⟩ a b = some v := by
 simp only [m_i_IsIns, m_s_IsIns, m_i_knownOp, m_i_operandA, m_i_operandB, m_i_slotOp, m_i_HasTarget, m_s_HasTarget, m_s_l25Slot, m_s_l25Text, range_eq, l1In_eq, e1, e2, e3, e4, sb]
 simp [sb]
 repeat' split
 all_goals simp_all
 all_goals (try omega)
 all_goals (by_cases hT : T = [] <;> by_cases h1 : A < a <;> by_cases h2 : B < a <;> by_cases h3 : A < b <;> first | (simp_all; done) | omega | (simp_all; omega))
theorem ins_42 (A B : Int) (S T : Str) (a b : Int) (gs gt : Bool) (e1 : m_i_goodName S = some gs) (e2 : m_s_l15Name S = some gs) (e3 : m_i_goodName T = some gt) (e4 : m_s_l15Name T = some gt) :
  ∃ v, m_i_IsIns ⟨42, A, B, S, T⟩ a b = some v ∧ m_s_IsIns ⟨42, A, B, S, T⟩ a b = some v := by
 simp only [m_i_IsIns, m_s_IsIns, m_i_knownOp, m_i_operandA, m_i_operandB, m_i_slotOp, m_i_HasTarget, m_s_HasTarget, m_s_l25Slot, m_s_l25Text, range_eq, l1In_eq, e1, e2, e3, e4, sb]
 simp [sb]
 repeat' split
 all_goals simp_all
 all_goals (try omega)
 all_goals (by_cases hT : T = [] <;> by_cases h1 : A < a <;> by_cases h2 : B < a <;> by_cases h3 : A < b <;> first | (simp_all; done) | omega | (simp_all; omega))
theorem ins_43 (A B : Int) (S T : Str) (a b : Int) (gs gt : Bool) (e1 : m_i_goodName S = some gs) (e2 : m_s_l15Name S = some gs) (e3 : m_i_goodName T = some gt) (e4 : m_s_l15Name T = some gt) :
  ∃ v, m_i_IsIns ⟨43, A, B, S, T⟩ a b = some v ∧ m_s_IsIns ⟨43, A, B, S, T⟩ a b = some v := by
 simp only [m_i_IsIns, m_s_IsIns, m_i_knownOp, m_i_operandA, m_i_operandB, m_i_slotOp, m_i_HasTarget, m_s_HasTarget, m_s_l25Slot, m_s_l25Text, range_eq, l1In_eq, e1, e2, e3, e4, sb]
 simp [sb]
 repeat' split
 all_goals simp_all
 all_goals (try omega)
 all_goals (by_cases hT : T = [] <;> by_cases h1 : A < a <;> by_cases h2 : B < a <;> by_cases h3 : A < b <;> first | (simp_all; done) | omega | (simp_all; omega))
theorem ins_44 (A B : Int) (S T : Str) (a b : Int) (gs gt : Bool) (e1 : m_i_goodName S = some gs) (e2 : m_s_l15Name S = some gs) (e3 : m_i_goodName T = some gt) (e4 : m_s_l15Name T = some gt) :
  ∃ v, m_i_IsIns ⟨44, A, B, S, T⟩ a b = some v ∧ m_s_IsIns ⟨44, A, B, S, T⟩ a b = some v := by
 simp only [m_i_IsIns, m_s_IsIns, m_i_knownOp, m_i_operandA, m_i_operandB, m_i_slotOp, m_i_HasTarget, m_s_HasTarget, m_s_l25Slot, m_s_l25Text, range_eq, l1In_eq, e1, e2, e3, e4, sb]
 simp [sb]
 repeat' split
 all_goals simp_all
 all_goals (try omega)
 all_goals (by_cases hT : T = [] <;> by_cases h1 : A < a <;> by_cases h2 : B < a <;> by_cases h3 : A < b <;> first | (simp_all; done) | omega | (simp_all; omega))
theorem ins_45 (A B : Int) (S T : Str) (a b : Int) (gs gt : Bool) (e1 : m_i_goodName S = some gs) (e2 : m_s_l15Name S = some gs) (e3 : m_i_goodName T = some gt) (e4 : m_s_l15Name T = some gt) :
  ∃ v, m_i_IsIns ⟨45, A, B, S, T⟩ a b = some v ∧ m_s_IsIns ⟨45, A, B, S, T⟩ a b = some v := by
 simp only [m_i_IsIns, m_s_IsIns, m_i_knownOp, m_i_operandA, m_i_operandB, m_i_slotOp, m_i_HasTarget, m_s_HasTarget, m_s_l25Slot, m_s_l25Text, range_eq, l1In_eq, e1, e2, e3, e4, sb]
 simp [sb]
 repeat' split
 all_goals simp_all
 all_goals (try omega)
 all_goals (by_cases hT : T = [] <;> by_cases h1 : A < a <;> by_cases h2 : B < a <;> by_cases h3 : A < b <;> first | (simp_all; done) | omega | (simp_all; omega))
theorem ins_46 (A B : Int) (S T : Str) (a b : Int) (gs gt : Bool) (e1 : m_i_goodName S = some gs) (e2 : m_s_l15Name S = some gs) (e3 : m_i_goodName T = some gt) (e4 : m_s_l15Name T = some gt) :
  ∃ v, m_i_IsIns ⟨46, A, B, S, T⟩ a b = some v ∧ m_s_IsIns ⟨46, A, B, S, T⟩ a b = some v := by
 simp only [m_i_IsIns, m_s_IsIns, m_i_knownOp, m_i_operandA, m_i_operandB, m_i_slotOp, m_i_HasTarget, m_s_HasTarget, m_s_l25Slot, m_s_l25Text, range_eq, l1In_eq, e1, e2, e3, e4, sb]
 simp [sb]
 repeat' split
 all_goals simp_all
 all_goals (try omega)
 all_goals (by_cases hT : T = [] <;> by_cases h1 : A < a <;> by_cases h2 : B < a <;> by_cases h3 : A < b <;> first | (simp_all; done) | omega | (simp_all; omega))
theorem ins_47 (A B : Int) (S T : Str) (a b : Int) (gs gt : Bool) (e1 : m_i_goodName S = some gs) (e2 : m_s_l15Name S = some gs) (e3 : m_i_goodName T = some gt) (e4 : m_s_l15Name T = some gt) :
  ∃ v, m_i_IsIns ⟨47, A, B, S, T⟩ a b = some v ∧ m_s_IsIns ⟨47, A, B, S, T⟩ a b = some v := by
 simp only [m_i_IsIns, m_s_IsIns, m_i_knownOp, m_i_operandA, m_i_operandB, m_i_slotOp, m_i_HasTarget, m_s_HasTarget, m_s_l25Slot, m_s_l25Text, range_eq, l1In_eq, e1, e2, e3, e4, sb]
 simp [sb]
 repeat' split
 all_goals simp_all
 all_goals (try omega)
 all_goals (by_cases hT : T = [] <;> by_cases h1 : A < a <;> by_cases h2 : B < a <;> by_cases h3 : A < b <;> first | (simp_all; done) | omega | (simp_all; omega))
theorem ins_48 (A B : Int) (S T : Str) (a b : Int) (gs gt : Bool) (e1 : m_i_goodName S = some gs) (e2 : m_s_l15Name S = some gs) (e3 : m_i_goodName T = some gt) (e4 : m_s_l15Name T = some gt) :
  ∃ v, m_i_IsIns ⟨48, A, B, S, T⟩ a b = some v ∧ m_s_IsIns ⟨48, A, B, S, T⟩ a b = some v := by
 simp only [m_i_IsIns, m_s_IsIns, m_i_knownOp, m_i_operandA, m_i_operandB, m_i_slotOp, m_i_HasTarget, m_s_HasTarget, m_s_l25Slot, m_s_l25Text, range_eq, l1In_eq, e1, e2, e3, e4, sb]
 simp [sb]
 repeat' split
 all_goals simp_all
 all_goals (try omega)
 all_goals (by_cases hT : T = [] <;> by_cases h1 : A < a <;> by_cases h2 : B < a <;> by_cases h3 : A < b <;> first | (simp_all; done) | omega | (simp_all; omega))
theorem ins_49 (A B : Int) (S T : Str) (a b : Int) (gs gt : Bool) (e1 : m_i_goodName S = some gs) (e2 : m_s_l15Name S = some gs) (e3 : m_i_goodName T = some gt) (e4 : m_s_l15Name T = some gt) :
  ∃ v, m_i_IsIns ⟨49, A, B, S, T⟩ a b = some v ∧ m_s_IsIns ⟨49, A, B, S, T⟩ a b = some v := by
 simp only [m_i_IsIns, m_s_IsIns, m_i_knownOp, m_i_operandA, m_i_operandB, m_i_slotOp, m_i_HasTarget, m_s_HasTarget, m_s_l25Slot, m_s_l25Text, range_eq, l1In_eq, e1, e2, e3, e4, sb]
 simp [sb]
 repeat' split
 all_goals simp_all
 all_goals (try omega)
 all_goals (by_cases hT : T = [] <;> by_cases h1 : A < a <;> by_cases h2 : B < a <;> by_cases h3 : A < b <;> first | (simp_all; done) | omega | (simp_all; omega))
theorem ins_50 (A B : Int) (S T : Str) (a b : Int) (gs gt : Bool) (e1 : m_i_goodName S = some gs) (e2 : m_s_l15Name S = some gs) (e3 : m_i_goodName T = some gt) (e4 : m_s_l15Name T = some gt) :
  ∃ v, m_i_IsIns ⟨50, A, B, S, T⟩ a b = some v ∧ m_s_IsIns ⟨50, A, B, S, T⟩ a b = some v := by
 simp only [m_i_IsIns, m_s_IsIns, m_i_knownOp, m_i_operandA, m_i_operandB, m_i_slotOp, m_i_HasTarget, m_s_HasTarget, m_s_l25Slot, m_s_l25Text, range_eq, l1In_eq, e1, e2, e3, e4, sb]
 simp [sb]
 repeat' split
 all_goals simp_all
 all_goals (try omega)
 all_goals (by_cases hT : T = [] <;> by_cases h1 : A < a <;> by_cases h2 : B < a <;> by_cases h3 : A < b <;> first | (simp_all; done) | omega | (simp_all; omega))
theorem ins_51 (A B : Int) (S T : Str) (a b : Int) (gs gt : Bool) (e1 : m_i_goodName S = some gs) (e2 : m_s_l15Name S = some gs) (e3 : m_i_goodName T = some gt) (e4 : m_s_l15Name T = some gt) :
  ∃ v, m_i_IsIns ⟨51, A, B, S, T⟩ a b = some v ∧ m_s_IsIns ⟨51, A, B, S, T⟩ a b = some v := by
 simp only [m_i_IsIns, m_s_IsIns, m_i_knownOp, m_i_operandA, m_i_operandB, m_i_slotOp, m_i_HasTarget, m_s_HasTarget, m_s_l25Slot, m_s_l25Text, range_eq, l1In_eq, e1, e2, e3, e4, sb]
 simp [sb]
 repeat' split
 all_goals simp_all
 all_goals (try omega)
 all_goals (by_cases hT : T = [] <;> by_cases h1 : A < a <;> by_cases h2 : B < a <;> by_cases h3 : A < b <;> first | (simp_all; done) | omega | (simp_all; omega))
theorem ins_52 (A B : Int) (S T : Str) (a b : Int) (gs gt : Bool) (e1 : m_i_goodName S = some gs) (e2 : m_s_l15Name S = some gs) (e3 : m_i_goodName T = some gt) (e4 : m_s_l15Name T = some gt) :
  ∃ v, m_i_IsIns ⟨52, A, B, S, T⟩ a b = some v ∧ m_s_IsIns ⟨52, A, B, S, T⟩ a b = some v := by
 simp only [m_i_IsIns, m_s_IsIns, m_i_knownOp, m_i_operandA, m_i_operandB, m_i_slotOp, m_i_HasTarget, m_s_HasTarget, m_s_l25Slot, m_s_l25Text, range_eq, l1In_eq, e1, e2, e3, e4, sb]
 simp [sb]
 repeat' split
 all_goals simp_all
 all_goals (try omega)
 all_goals (by_cases hT : T = [] <;> by_cases h1 : A < a <;> by_cases h2 : B < a <;> by_cases h3 : A < b <;> first | (simp_all; done) | omega | (simp_all; omega))
theorem ins_53 (A B : Int) (S T : Str) (a b : Int) (gs gt : Bool) (e1 : m_i_goodName S = some gs) (e2 : m_s_l15Name S = some gs) (e3 : m_i_goodName T = some gt) (e4 : m_s_l15Name T = some gt) :
  ∃ v, m_i_IsIns ⟨53, A, B, S, T⟩ a b = some v ∧ m_s_IsIns ⟨53, A, B, S, T⟩ a b = some v := by
 simp only [m_i_IsIns, m_s_IsIns, m_i_knownOp, m_i_operandA, m_i_operandB, m_i_slotOp, m_i_HasTarget, m_s_HasTarget, m_s_l25Slot, m_s_l25Text, range_eq, l1In_eq, e1, e2, e3, e4, sb]
 simp [sb]
 repeat' split
 all_goals simp_all
 all_goals (try omega)
 all_goals (by_cases hT : T = [] <;> by_cases h1 : A < a <;> by_cases h2 : B < a <;> by_cases h3 : A < b <;> first | (simp_all; done) | omega | (simp_all; omega))
theorem ins_54 (A B : Int) (S T : Str) (a b : Int) (gs gt : Bool) (e1 : m_i_goodName S = some gs) (e2 : m_s_l15Name S = some gs) (e3 : m_i_goodName T = some gt) (e4 : m_s_l15Name T = some gt) :
  ∃ v, m_i_IsIns ⟨54, A, B, S, T⟩ a b = some v ∧ m_s_IsIns ⟨54, A, B, S, T⟩ a b = some v := by
 simp only [m_i_IsIns, m_s_IsIns, m_i_knownOp, m_i_operandA, m_i_operandB, m_i_slotOp, m_i_HasTarget, m_s_HasTarget, m_s_l25Slot, m_s_l25Text, range_eq, l1In_eq, e1, e2, e3, e4, sb]
 simp [sb]
 repeat' split
 all_goals simp_all
 all_goals (try omega)
 all_goals (by_cases hT : T = [] <;> by_cases h1 : A < a <;> by_cases h2 : B < a <;> by_cases h3 : A < b <;> first | (simp_all; done) | omega | (simp_all; omega))
theorem ins_55 (A B : Int) (S T : Str) (a b : Int) (gs gt : Bool) (e1 : m_i_goodName S = some gs) (e2 : m_s_l15Name S = some gs) (e3 : m_i_goodName T = some gt) (e4 : m_s_l15Name T = some gt) :
  ∃ v, m_i_IsIns ⟨55, A, B, S, T⟩ a b = some v ∧ m_s_IsIns ⟨55, A, B, S, T⟩ a b = some v := by
 simp only [m_i_IsIns, m_s_IsIns, m_i_knownOp, m_i_operandA, m_i_operandB, m_i_slotOp, m_i_HasTarget, m_s_HasTarget, m_s_l25Slot, m_s_l25Text, range_eq, l1In_eq, e1, e2, e3, e4, sb]
 simp [sb]
 repeat' split
 all_goals simp_all
 all_goals (try omega)
 all_goals (by_cases hT : T = [] <;> by_cases h1 : A < a <;> by_cases h2 : B < a <;> by_cases h3 : A < b <;> first | (simp_all; done) | omega | (simp_all; omega))
theorem ins_56 (A B : Int) (S T : Str) (a b : Int) (gs gt : Bool) (e1 : m_i_goodName S = some gs) (e2 : m_s_l15Name S = some gs) (e3 : m_i_goodName T = some gt) (e4 : m_s_l15Name T = some gt) :
  ∃ v, m_i_IsIns ⟨56, A, B, S, T⟩ a b = some v ∧ m_s_IsIns ⟨56, A, B, S, T⟩ a b = some v := by
 simp only [m_i_IsIns, m_s_IsIns, m_i_knownOp, m_i_operandA, m_i_operandB, m_i_slotOp, m_i_HasTarget, m_s_HasTarget, m_s_l25Slot, m_s_l25Text, range_eq, l1In_eq, e1, e2, e3, e4, sb]
 simp [sb]
 repeat' split
 all_goals simp_all
 all_goals (try omega)
 all_goals (by_cases hT : T = [] <;> by_cases h1 : A < a <;> by_cases h2 : B < a <;> by_cases h3 : A < b <;> first | (simp_all; done) | omega | (simp_all; omega))
theorem isIns_eq (x : TIns) (a b : Int) : ∃ v, m_i_IsIns x a b = some v ∧ m_s_IsIns x a b = some v := by
 obtain ⟨n, A, B, S, T⟩ := x
 obtain ⟨gs, e1, e2⟩ := good_eq S
 obtain ⟨gt, e3, e4⟩ := good_eq T
 by_cases hn : 1 ≤ n ∧ n ≤ 56
 ·obtain ⟨k, rfl⟩ : ∃ k : Nat, n = (k : Int) := ⟨n.toNat, by omega⟩
  have hk : k ≤ 56 := by omega
  have h1 : 1 ≤ k := by omega
  clear hn
  match k, hk, h1 with
  | 0, _, h1 => exact absurd h1 (by decide)
  | 1, _, _ => exact ins_1 A B S T a b gs gt e1 e2 e3 e4
  | 2, _, _ => exact ins_2 A B S T a b gs gt e1 e2 e3 e4
  | 3, _, _ => exact ins_3 A B S T a b gs gt e1 e2 e3 e4
  | 4, _, _ => exact ins_4 A B S T a b gs gt e1 e2 e3 e4
  | 5, _, _ => exact ins_5 A B S T a b gs gt e1 e2 e3 e4
  | 6, _, _ => exact ins_6 A B S T a b gs gt e1 e2 e3 e4
  | 7, _, _ => exact ins_7 A B S T a b gs gt e1 e2 e3 e4
  | 8, _, _ => exact ins_8 A B S T a b gs gt e1 e2 e3 e4
  | 9, _, _ => exact ins_9 A B S T a b gs gt e1 e2 e3 e4
  | 10, _, _ => exact ins_10 A B S T a b gs gt e1 e2 e3 e4
  | 11, _, _ => exact ins_11 A B S T a b gs gt e1 e2 e3 e4
  | 12, _, _ => exact ins_12 A B S T a b gs gt e1 e2 e3 e4
  | 13, _, _ => exact ins_13 A B S T a b gs gt e1 e2 e3 e4
  | 14, _, _ => exact ins_14 A B S T a b gs gt e1 e2 e3 e4
  | 15, _, _ => exact ins_15 A B S T a b gs gt e1 e2 e3 e4
  | 16, _, _ => exact ins_16 A B S T a b gs gt e1 e2 e3 e4
  | 17, _, _ => exact ins_17 A B S T a b gs gt e1 e2 e3 e4
  | 18, _, _ => exact ins_18 A B S T a b gs gt e1 e2 e3 e4
  | 19, _, _ => exact ins_19 A B S T a b gs gt e1 e2 e3 e4
  | 20, _, _ => exact ins_20 A B S T a b gs gt e1 e2 e3 e4
  | 21, _, _ => exact ins_21 A B S T a b gs gt e1 e2 e3 e4
  | 22, _, _ => exact ins_22 A B S T a b gs gt e1 e2 e3 e4
  | 23, _, _ => exact ins_23 A B S T a b gs gt e1 e2 e3 e4
  | 24, _, _ => exact ins_24 A B S T a b gs gt e1 e2 e3 e4
  | 25, _, _ => exact ins_25 A B S T a b gs gt e1 e2 e3 e4
  | 26, _, _ => exact ins_26 A B S T a b gs gt e1 e2 e3 e4
  | 27, _, _ => exact ins_27 A B S T a b gs gt e1 e2 e3 e4
  | 28, _, _ => exact ins_28 A B S T a b gs gt e1 e2 e3 e4
  | 29, _, _ => exact ins_29 A B S T a b gs gt e1 e2 e3 e4
  | 30, _, _ => exact ins_30 A B S T a b gs gt e1 e2 e3 e4
  | 31, _, _ => exact ins_31 A B S T a b gs gt e1 e2 e3 e4
  | 32, _, _ => exact ins_32 A B S T a b gs gt e1 e2 e3 e4
  | 33, _, _ => exact ins_33 A B S T a b gs gt e1 e2 e3 e4
  | 34, _, _ => exact ins_34 A B S T a b gs gt e1 e2 e3 e4
  | 35, _, _ => exact ins_35 A B S T a b gs gt e1 e2 e3 e4
  | 36, _, _ => exact ins_36 A B S T a b gs gt e1 e2 e3 e4
  | 37, _, _ => exact ins_37 A B S T a b gs gt e1 e2 e3 e4
  | 38, _, _ => exact ins_38 A B S T a b gs gt e1 e2 e3 e4
  | 39, _, _ => exact ins_39 A B S T a b gs gt e1 e2 e3 e4
  | 40, _, _ => exact ins_40 A B S T a b gs gt e1 e2 e3 e4
  | 41, _, _ => exact ins_41 A B S T a b gs gt e1 e2 e3 e4
  | 42, _, _ => exact ins_42 A B S T a b gs gt e1 e2 e3 e4
  | 43, _, _ => exact ins_43 A B S T a b gs gt e1 e2 e3 e4
  | 44, _, _ => exact ins_44 A B S T a b gs gt e1 e2 e3 e4
  | 45, _, _ => exact ins_45 A B S T a b gs gt e1 e2 e3 e4
  | 46, _, _ => exact ins_46 A B S T a b gs gt e1 e2 e3 e4
  | 47, _, _ => exact ins_47 A B S T a b gs gt e1 e2 e3 e4
  | 48, _, _ => exact ins_48 A B S T a b gs gt e1 e2 e3 e4
  | 49, _, _ => exact ins_49 A B S T a b gs gt e1 e2 e3 e4
  | 50, _, _ => exact ins_50 A B S T a b gs gt e1 e2 e3 e4
  | 51, _, _ => exact ins_51 A B S T a b gs gt e1 e2 e3 e4
  | 52, _, _ => exact ins_52 A B S T a b gs gt e1 e2 e3 e4
  | 53, _, _ => exact ins_53 A B S T a b gs gt e1 e2 e3 e4
  | 54, _, _ => exact ins_54 A B S T a b gs gt e1 e2 e3 e4
  | 55, _, _ => exact ins_55 A B S T a b gs gt e1 e2 e3 e4
  | 56, _, _ => exact ins_56 A B S T a b gs gt e1 e2 e3 e4
  | k + 57, hk, _ => exact absurd hk (by omega)
 ·refine ⟨false, ?_, ?_⟩
  ·unfold m_i_IsIns m_i_knownOp
   rw [range_eq, sb, sb, if_neg (by simpa using hn)]
  ·have key : ∀ {α : Type} {X : Option α} {f : α → Option Bool}, (∃ a, X = some a) → (∀ a, f a = some false) → (X >>= f) = some false := fun {α X f} h1 h2 => by
    obtain ⟨a, rfl⟩ := h1
    exact h2 a
   have htx := text_ex n
   have hsl := slot_ex n
   have htg : ∃ b, m_s_HasTarget n = some b := ⟨_, sTgt n⟩
   have hin : ∀ a b c, ∃ v, m_s_l1In a b c = some v := fun a b c => ⟨_, l1In_eq a b c⟩
   unfold m_s_IsIns
   refine key ?_ (fun _ => key ?_ (fun _ => key ?_ (fun _ => key ?_ (fun _ => key ?_ (fun _ => key ?_ (fun _ => ?_))))))
   iterate 6 (repeat first | exact ⟨_, rfl⟩ | exact ⟨_, e2⟩ | exact ⟨_, e4⟩ | exact htx | exact hsl | exact htg | exact hin _ _ _ | refine t_ite ?_ ?_ | refine t_bind ?_ (fun _ => ?_))
   rw [l1In_eq, sb, if_neg (by simpa using hn)]
end Go.Am
