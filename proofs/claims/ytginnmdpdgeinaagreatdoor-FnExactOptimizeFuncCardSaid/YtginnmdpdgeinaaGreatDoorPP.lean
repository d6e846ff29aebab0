/- The plain law, first part: names and instructions. -/
import Derived.Test.YtginnmdpdgeinaaGreatDoorA2
import Derived.Test.YtginnmdpdgeinaaGreatDoorA4b
import Derived.Test.YtginnmdpdgeinaaGreatDoorA5
import Derived.Test.YtginnmdpdgeinaaGreatDoorA6
import Derived.Test.YtginnmdpdgeinaaGreatDoorA7
import Derived.Test.YtginnmdpdgeinaaGreatDoorA8
set_option linter.unusedVariables false
set_option linter.unusedSimpArgs false
namespace Go.Am
open Go Go.RowKit Go.Proofs
theorem sb {α β : Type} (a : α) (f : α → Option β) : (some a >>= f) = f a := rfl
theorem sidx_nat {s : Str} {i : Nat} (h : i < s.length) : sidx s (i : Int) = some (s.getD i 0) := by
 unfold sidx; rw [if_pos ⟨by omega, by omega⟩]; rfl
theorem idx_nat {α : Type} [Inhabited α] {l : List α} {i : Nat} (h : i < l.length) : idx l (i : Int) = some l[i] := by
 unfold idx; rw [if_pos ⟨by omega, by omega⟩]
 simp [List.getD_eq_getElem?_getD, h]
theorem w_nat {x : Int} {n : Nat} (h : x = (n : Int)) (hn : n ≤ 9223372036854775807) : W64 x = (n : Int) := by
 subst h; exact w64 (by omega) (by omega)
theorem w_succ {i : Nat} (h : i < 9223372036854775807) : W64 ((i : Int) + 1) = ((i + 1 : Nat) : Int) := w_nat (by omega) (by omega)
theorem lapp_eq {α : Type} {b : Nat} {l m : List α} (h : (l.length + m.length) * b ≤ 140737488355328) : lapp b l m = some (l ++ m) := if_pos h
theorem range_eq (a b c : Int) : m_i_InRange a b c = some (decide (b ≤ a ∧ a ≤ c)) := by
 unfold m_i_InRange
 by_cases h : b ≤ a
 ·rw [if_pos h]; congr 1; simp; omega
 ·rw [if_neg h]; congr 1; symm; rw [decide_eq_false_iff_not]; omega
theorem l1In_eq (a b c : Int) : m_s_l1In a b c = some (decide (b ≤ a ∧ a ≤ c)) := by
 unfold m_s_l1In
 by_cases h : a ≥ b
 ·rw [if_pos h]; congr 1; simp; omega
 ·rw [if_neg h]; congr 1; symm; rw [decide_eq_false_iff_not]; omega
def isLet (b : UInt8) : Bool := decide (65 ≤ b.toNat ∧ b.toNat ≤ 90) || decide (97 ≤ b.toNat ∧ b.toNat ≤ 122)
def isDig (b : UInt8) : Bool := decide (48 ≤ b.toNat ∧ b.toNat ≤ 57)
theorem let_eq (b : UInt8) : m_i_isLetter (b.toNat : Int) = some (isLet b) := by
 unfold m_i_isLetter isLet
 by_cases h : (b.toNat : Int) ≥ 65
 ·rw [if_pos h]
  by_cases h2 : (b.toNat : Int) ≤ 90
  ·rw [if_pos h2]; congr 1; symm; simp; omega
  ·rw [if_neg h2]
   by_cases h3 : (b.toNat : Int) ≥ 97
   ·rw [if_pos h3]; congr 1; rw [Bool.eq_iff_iff]; simp; omega
   ·rw [if_neg h3]; congr 1; symm; simp; omega
 ·rw [if_neg h, if_neg (by omega)]; congr 1; symm; simp; omega
theorem dig_eq (b : UInt8) : m_i_isDigit (b.toNat : Int) = some (isDig b) := by
 unfold m_i_isDigit isDig
 by_cases h : (b.toNat : Int) ≥ 48
 ·rw [if_pos h]; congr 1; rw [Bool.eq_iff_iff]; simp; omega
 ·rw [if_neg h]; congr 1; symm; simp; omega
theorem wb (b : UInt8) : W64 (b.toNat : Int) = (b.toNat : Int) := by
 have := b.toNat_lt
 exact w64 (by omega) (by omega)
theorem sLet_eq (b : UInt8) : m_s_l14Letter (b.toNat : Int) = some (isLet b || decide (b.toNat = 95)) := by
 unfold m_s_l14Letter isLet
 rw [wb, l1In_eq, sb]
 by_cases h : (97 : Int) ≤ (b.toNat : Int) ∧ (b.toNat : Int) ≤ 122
 ·rw [if_pos (by simp; omega)]; congr 1; symm; simp; omega
 ·rw [if_neg (by simp; omega), l1In_eq, sb]
  by_cases h2 : (65 : Int) ≤ (b.toNat : Int) ∧ (b.toNat : Int) ≤ 90
  ·rw [if_pos (by simp; omega)]; congr 1; symm; simp; omega
  ·rw [if_neg (by simp; omega)]; congr 1; rw [Bool.eq_iff_iff]; simp; omega
theorem sDig_eq (b : UInt8) : m_s_l14Digit (b.toNat : Int) = some (isDig b) := by
 unfold m_s_l14Digit isDig
 rw [wb, l1In_eq, sb]
 congr 1; rw [Bool.eq_iff_iff]; simp; omega
def nameTo (s : Str) : Nat → Nat → Nat
 | 0, i => i
 | f + 1, i => if i < s.length then (if isLet (s.getD i 0) || decide ((s.getD i 0).toNat = 95) || (decide (0 < i) && isDig (s.getD i 0)) then nameTo s f (i + 1) else i) else i
theorem iName_go (s : Str) (hs : s.length < 9223372036854775807) : ∀ (f i : Nat), s.length ≤ i + f → i ≤ s.length → m_i_nameLength_L2 s (i : Int) = some ((nameTo s (f + 1) i : Nat) : Int)
 | f, i, h, hi => by
  rw [m_i_nameLength_L2, nameTo]
  by_cases hc : i < s.length
  ·rw [if_pos (by omega), if_pos hc, sidx_nat hc, sb, let_eq, sb, w_succ (by omega)]
   obtain ⟨g, rfl⟩ : ∃ g, f = g + 1 := ⟨f - 1, by omega⟩
   have ih := iName_go s hs g (i + 1) (by omega) (by omega)
   cases hl : isLet (s.getD i 0)
   ·rw [if_neg (by simp), sb]
    by_cases h5 : (s.getD i 0).toNat = 95
    ·rw [if_pos (by omega), ih, if_pos (by simp only [h5, eq_self, decide_true, Bool.or_true, Bool.true_or])]
    ·rw [if_neg (by omega)]
     by_cases h0 : 0 < i
     ·rw [if_pos (by omega), sb, dig_eq, sb]
      cases hd : isDig (s.getD i 0)
      ·rw [if_neg (by simp), if_neg (by simp only [h5, decide_false, Bool.or_false, Bool.and_false, Bool.false_or]; simp)]
      ·rw [if_pos rfl, ih, if_pos (by simp only [h0, decide_true, Bool.true_and, Bool.or_true])]
     ·rw [if_neg (by omega), if_neg (by simp only [h5, h0, decide_false, Bool.false_and, Bool.or_false]; simp)]
   ·rw [if_pos rfl, ih, if_pos (by simp)]
  ·rw [if_neg (by omega), if_neg hc]
theorem sName_go (s : Str) (hs : s.length < 9223372036854775807) : ∀ (f i : Nat), s.length ≤ i + f → i ≤ s.length → m_s_l14Name_L2 s 0 (i : Int) = some ((nameTo s (f + 1) i : Nat) : Int)
 | f, i, h, hi => by
  rw [m_s_l14Name_L2, nameTo]
  by_cases hc : i < s.length
  ·rw [if_pos (by omega), if_pos hc, sidx_nat hc, sb, sLet_eq, sb, w_succ (by omega)]
   obtain ⟨g, rfl⟩ : ∃ g, f = g + 1 := ⟨f - 1, by omega⟩
   have ih := sName_go s hs g (i + 1) (by omega) (by omega)
   cases hl : (isLet (s.getD i 0) || decide ((s.getD i 0).toNat = 95))
   ·rw [if_neg (by simp)]
    by_cases h0 : 0 < i
    ·rw [if_pos (by omega), sb, sDig_eq, sb]
     cases hd : isDig (s.getD i 0)
     ·rw [if_neg (by simp), if_neg (by simp)]
     ·rw [if_pos rfl, ih, if_pos (by simp [h0])]
    ·rw [if_neg (by omega), if_neg (by simp [h0])]
   ·rw [if_pos rfl, ih, if_pos (by simp)]
  ·rw [if_neg (by omega), if_neg hc]
theorem isName_eq (s : Str) : ∃ b, m_i_IsName s = some b ∧ m_s_IsName s = some b := by
 unfold m_i_IsName m_s_IsName
 by_cases h : s.length ≤ 20
 ·rw [if_pos (by omega)]
  have e1 : m_i_nameLength s = some ((nameTo s (s.length + 1) 0 : Nat) : Int) := by
   unfold m_i_nameLength
   have := iName_go s (by omega) s.length 0 (by omega) (by omega)
   rw [show ((0 : Nat) : Int) = 0 from rfl] at this
   rw [this, sb]
  have e2 : m_s_l14Name s 0 = some ((nameTo s (s.length + 1) 0 : Nat) : Int) := by
   unfold m_s_l14Name
   have := sName_go s (by omega) s.length 0 (by omega) (by omega)
   rw [show ((0 : Nat) : Int) = 0 from rfl] at this
   rw [this, sb]
  rw [e1, sb, e2]
  cases s with
  | nil => exact ⟨_, rfl, rfl⟩
  | cons c r =>
   rw [if_pos (show ((c :: r).length : Int) ≥ 1 by simp; omega), if_pos (show ((c :: r).length : Int) ≤ 20 by omega), sb]
   by_cases he : nameTo (c :: r) ((c :: r).length + 1) 0 = (c :: r).length
   ·rw [if_pos (by omega)]
    refine ⟨_, rfl, ?_⟩
    congr 1
    simp only [beq_iff_eq, he]
    simp
   ·rw [if_neg (by omega)]
    refine ⟨_, rfl, ?_⟩
    congr 1
    rw [beq_eq_false_iff_ne]
    omega
 ·rw [if_neg (by omega)]
  refine ⟨_, rfl, ?_⟩
  rw [if_pos (by omega), if_neg (by omega)]
end Go.Am
set_option linter.unusedVariables false
set_option linter.unusedSimpArgs false
set_option maxRecDepth 100000
namespace Go.Am
open Go Go.RowKit Go.Proofs
def resv : List Str := [[101, 99, 104, 111], [105, 102], [101, 108, 115, 101], [119, 104, 105, 108, 101], [102, 111, 114, 101, 97, 99, 104], [97, 115], [98, 114, 101, 97, 107], [99, 111, 110, 116, 105, 110, 117, 101], [114, 101, 116, 117, 114, 110], [103, 108, 111, 98, 97, 108], [117, 110, 115, 101, 116], [116, 104, 114, 111, 119], [116, 114, 121], [99, 97, 116, 99, 104], [102, 105, 110, 97, 108, 108, 121], [121, 105, 101, 108, 100], [105, 110, 99, 108, 117, 100, 101], [102, 117, 110, 99, 116, 105, 111, 110], [99, 108, 97, 115, 115], [116, 114, 97, 105, 116], [101, 120, 116, 101, 110, 100, 115], [117, 115, 101], [112, 114, 105, 118, 97, 116, 101], [115, 116, 97, 116, 105, 99], [110, 101, 119], [116, 114, 117, 101], [102, 97, 108, 115, 101], [110, 117, 108, 108]]
theorem resv_go (s : Str) : ∀ (f k : Nat), resv.length ≤ k + f → m_s_IsReserved_L2 s (k : Int) = some (if (resv.drop k).any (fun x => decide (s = x)) then .inr true else .inl ())
 | f, k, h => by
  rw [m_s_IsReserved_L2]
  change (if (k : Int) < (resv.length : Int) then idx resv (k : Int) >>= _ else _) = _
  by_cases hc : k < resv.length
  ·have hl : resv.length = 28 := rfl
   rw [if_pos (by omega), idx_nat hc, sb, w_succ (by omega), List.drop_eq_getElem_cons hc, List.any_cons]
   by_cases he : resv[k] = s
   ·rw [if_pos he, if_pos (by rw [← he]; simp)]
   ·obtain ⟨g, rfl⟩ : ∃ g, f = g + 1 := ⟨f - 1, by omega⟩
    rw [if_neg he, resv_go s g (k + 1) (by omega), decide_eq_false (fun h => he h.symm), Bool.false_or]
  ·rw [if_neg (by omega), List.drop_eq_nil_of_le (by omega)]; rfl
theorem or_step {s x : Str} {b : Bool} {z : Option Bool} (h : z = some b) : (if s = x then some true else z) = some (decide (s = x) || b) := by
 subst h
 by_cases h : s = x
 ·rw [if_pos h, decide_eq_true h, Bool.true_or]
 ·rw [if_neg h, decide_eq_false h, Bool.false_or]
theorem sRes_eq (s : Str) : m_s_IsReserved s = some (resv.any fun x => decide (s = x)) := by
 unfold m_s_IsReserved
 have := resv_go s resv.length 0 (by omega)
 rw [show ((0 : Nat) : Int) = 0 from rfl, List.drop_zero] at this
 rw [this, sb]
 cases hc : resv.any (fun x => decide (s = x))
 ·rfl
 ·rfl
theorem iRes_eq (s : Str) : m_i_IsReserved s = some (resv.any fun x => decide (s = x)) := by
 have e : resv.any (fun x => decide (s = x)) = (decide (s = ([101, 99, 104, 111] : Str)) || (decide (s = ([105, 102] : Str)) || (decide (s = ([101, 108, 115, 101] : Str)) || (decide (s = ([119, 104, 105, 108, 101] : Str)) || (decide (s = ([102, 111, 114, 101, 97, 99, 104] : Str)) || (decide (s = ([97, 115] : Str)) || (decide (s = ([98, 114, 101, 97, 107] : Str)) || (decide (s = ([99, 111, 110, 116, 105, 110, 117, 101] : Str)) || (decide (s = ([114, 101, 116, 117, 114, 110] : Str)) || (decide (s = ([103, 108, 111, 98, 97, 108] : Str)) || (decide (s = ([117, 110, 115, 101, 116] : Str)) || (decide (s = ([116, 104, 114, 111, 119] : Str)) || (decide (s = ([116, 114, 121] : Str)) || (decide (s = ([99, 97, 116, 99, 104] : Str)) || (decide (s = ([102, 105, 110, 97, 108, 108, 121] : Str)) || (decide (s = ([121, 105, 101, 108, 100] : Str)) || (decide (s = ([105, 110, 99, 108, 117, 100, 101] : Str)) || (decide (s = ([102, 117, 110, 99, 116, 105, 111, 110] : Str)) || (decide (s = ([99, 108, 97, 115, 115] : Str)) || (decide (s = ([116, 114, 97, 105, 116] : Str)) || (decide (s = ([101, 120, 116, 101, 110, 100, 115] : Str)) || (decide (s = ([117, 115, 101] : Str)) || (decide (s = ([112, 114, 105, 118, 97, 116, 101] : Str)) || (decide (s = ([115, 116, 97, 116, 105, 99] : Str)) || (decide (s = ([110, 101, 119] : Str)) || (decide (s = ([116, 114, 117, 101] : Str)) || (decide (s = ([102, 97, 108, 115, 101] : Str)) || (decide (s = ([110, 117, 108, 108] : Str)) || false)))))))))))))))))))))))))))) := rfl
 rw [e]
 unfold m_i_IsReserved
 exact (or_step (or_step (or_step (or_step (or_step (or_step (or_step (or_step (or_step (or_step (or_step (or_step (or_step (or_step (or_step (or_step (or_step (or_step (or_step (or_step (or_step (or_step (or_step (or_step (or_step (or_step (or_step (or_step rfl))))))))))))))))))))))))))))
theorem good_eq (s : Str) : ∃ b, m_i_goodName s = some b ∧ m_s_l15Name s = some b := by
 obtain ⟨b, h1, h2⟩ := isName_eq s
 unfold m_i_goodName m_s_l15Name
 rw [h1, h2, sb, sb, iRes_eq, sRes_eq]
 cases b
 ·exact ⟨_, rfl, rfl⟩
 ·exact ⟨_, rfl, rfl⟩
theorem t_bind {α β : Type} {x : Option α} {f : α → Option β} (h1 : ∃ a, x = some a) (h2 : ∀ a, ∃ b, f a = some b) : ∃ b, (x >>= f) = some b := by
 obtain ⟨a, rfl⟩ := h1
 exact h2 a
theorem t_ite {α : Type} {c : Prop} [Decidable c] {x y : Option α} (h1 : ∃ a, x = some a) (h2 : ∃ a, y = some a) : ∃ a, (if c then x else y) = some a := by
 by_cases h : c
 ·rw [if_pos h]; exact h1
 ·rw [if_neg h]; exact h2
theorem tgt_ex (n : Int) : ∃ b, m_i_HasTarget n = some b := by
 unfold m_i_HasTarget
 repeat first | exact ⟨_, rfl⟩ | refine t_ite ?_ ?_
theorem slot_ex (n : Int) : ∃ b, m_s_l25Slot n = some b := by
 unfold m_s_l25Slot
 repeat first | exact ⟨_, rfl⟩ | refine t_ite ?_ ?_
theorem text_ex (n : Int) : ∃ b, m_s_l25Text n = some b := by
 unfold m_s_l25Text
 repeat first | exact ⟨_, rfl⟩ | refine t_ite ?_ ?_ | refine t_bind ?_ (fun _ => ?_)
theorem fin_ex (n : Int) : ∃ b, m_i_IsFinal n = some b := by
 unfold m_i_IsFinal
 repeat first | exact ⟨_, rfl⟩ | refine t_ite ?_ ?_
theorem tch_ex (n : Int) : ∃ b, m_i_TargetChange n = some b := by
 unfold m_i_TargetChange
 repeat first | exact ⟨_, rfl⟩ | refine t_ite ?_ ?_
theorem need_ex (x : TIns) : ∃ b, m_i_InsNeed x = some b := by
 unfold m_i_InsNeed
 repeat first | exact ⟨_, rfl⟩ | refine t_ite ?_ ?_ | refine t_bind ?_ (fun _ => ?_)
theorem chg_ex (x : TIns) : ∃ b, m_i_InsChange x = some b := by
 unfold m_i_InsChange
 repeat first | exact ⟨_, rfl⟩ | refine t_ite ?_ ?_ | refine t_bind ?_ (fun _ => ?_)
def tgt (n : Int) : Bool := (m_i_HasTarget n).getD false
def fin (n : Int) : Bool := (m_i_IsFinal n).getD false
def tch (n : Int) : Int := (m_i_TargetChange n).getD 0
def need (x : TIns) : Int := (m_i_InsNeed x).getD 0
def chg (x : TIns) : Int := (m_i_InsChange x).getD 0
theorem iTgt (n : Int) : m_i_HasTarget n = some (tgt n) := by obtain ⟨b, h⟩ := tgt_ex n; rw [tgt, h]; rfl
theorem iFin (n : Int) : m_i_IsFinal n = some (fin n) := by obtain ⟨b, h⟩ := fin_ex n; rw [fin, h]; rfl
theorem iTch (n : Int) : m_i_TargetChange n = some (tch n) := by obtain ⟨b, h⟩ := tch_ex n; rw [tch, h]; rfl
theorem iNeed (x : TIns) : m_i_InsNeed x = some (need x) := by obtain ⟨b, h⟩ := need_ex x; rw [need, h]; rfl
theorem iChg (x : TIns) : m_i_InsChange x = some (chg x) := by obtain ⟨b, h⟩ := chg_ex x; rw [chg, h]; rfl
theorem sTgt (n : Int) : m_s_HasTarget n = some (tgt n) := (show m_s_HasTarget n = m_i_HasTarget n by unfold m_s_HasTarget m_i_HasTarget; rfl).trans (iTgt n)
theorem sFin (n : Int) : m_s_IsFinal n = some (fin n) := (show m_s_IsFinal n = m_i_IsFinal n by unfold m_s_IsFinal m_i_IsFinal; rfl).trans (iFin n)
theorem sTch (n : Int) : m_s_TargetChange n = some (tch n) := (show m_s_TargetChange n = m_i_TargetChange n by unfold m_s_TargetChange m_i_TargetChange; rfl).trans (iTch n)
theorem sNeed (x : TIns) : m_s_InsNeed x = some (need x) := (show m_s_InsNeed x = m_i_InsNeed x by unfold m_s_InsNeed m_i_InsNeed; rfl).trans (iNeed x)
theorem sChg (x : TIns) : m_s_InsChange x = some (chg x) := (show m_s_InsChange x = m_i_InsChange x by unfold m_s_InsChange m_i_InsChange; rfl).trans (iChg x)
theorem ins_1 (A B : Int) (S T : Str) (a b : Int) (gs gt : Bool) (e1 : m_i_goodName S = some gs) (e2 : m_s_l15Name S = some gs) (e3 : m_i_goodName T = some gt) (e4 : m_s_l15Name T = some gt) :
  ∃ v, m_i_IsIns ⟨1, A, B, S, T⟩ a b = some v ∧ m_s_IsIns ⟨1, A, B, S, T⟩ a b = some v := by
 simp only [m_i_IsIns, m_s_IsIns, m_i_knownOp, m_i_operandA, m_i_operandB, m_i_slotOp, m_i_HasTarget, m_s_HasTarget, m_s_l25Slot, m_s_l25Text, range_eq, l1In_eq, e1, e2, e3, e4, sb]
 simp [sb]
 repeat' split
 all_goals simp_all
 all_goals (try omega)
 all_goals (by_cases hT : T = [] <;> by_cases h1 : A < a <;> by_cases h2 : B < a <;> by_cases h3 : A < b <;> first | (simp_all; done) | omega | (simp_all; omega))
theorem ins_2 (A B : Int) (S T : Str) (a b : Int) (gs gt : Bool) (e1 : m_i_goodName S = some gs) (e2 : m_s_l15Name S = some gs) (e3 : m_i_goodName T = some gt) (e4 : m_s_l15Name T = some gt) :
  ∃ v, m_i_IsIns ⟨2, A, B, S, T⟩ a b = some v ∧ m_s_IsIns ⟨2, A, B, S, T⟩ a b = some v := by
 simp only [m_i_IsIns, m_s_IsIns, m_i_knownOp, m_i_operandA, m_i_operandB, m_i_slotOp, m_i_HasTarget, m_s_HasTarget, m_s_l25Slot, m_s_l25Text, range_eq, l1In_eq, e1, e2, e3, e4, sb]
 simp [sb]
 repeat' split
 all_goals simp_all
 all_goals (try omega)
 all_goals (by_cases hT : T = [] <;> by_cases h1 : A < a <;> by_cases h2 : B < a <;> by_cases h3 : A < b <;> first | (simp_all; done) | omega | (simp_all; omega))
theorem ins_3 (A B : Int) (S T : Str) (a b : Int) (gs gt : Bool) (e1 : m_i_goodName S = some gs) (e2 : m_s_l15Name S = some gs) (e3 : m_i_goodName T = some gt) (e4 : m_s_l15Name T = some gt) :
  ∃ v, m_i_IsIns ⟨3, A, B, S, T⟩ a b = some v ∧ m_s_IsIns ⟨3, A, B, S, T⟩ a b = some v := by
 simp only [m_i_IsIns, m_s_IsIns, m_i_knownOp, m_i_operandA, m_i_operandB, m_i_slotOp, m_i_HasTarget, m_s_HasTarget, m_s_l25Slot, m_s_l25Text, range_eq, l1In_eq, e1, e2, e3, e4, sb]
 simp [sb]
 repeat' split
 all_goals simp_all
 all_goals (try omega)
 all_goals (by_cases hT : T = [] <;> by_cases h1 : A < a <;> by_cases h2 : B < a <;> by_cases h3 : A < b <;> first | (simp_all; done) | omega | (simp_all; omega))
theorem ins_4 (A B : Int) (S T : Str) (a b : Int) (gs gt : Bool) (e1 : m_i_goodName S = some gs) (e2 : m_s_l15Name S = some gs) (e3 : m_i_goodName T = some gt) (e4 : m_s_l15Name T = some gt) :
  ∃ v, m_i_IsIns ⟨4, A, B, S, T⟩ a b = some v ∧ m_s_IsIns ⟨4, A, B, S, T⟩ a b = some v := by
 simp only [m_i_IsIns, m_s_IsIns, m_i_knownOp, m_i_operandA, m_i_operandB, m_i_slotOp, m_i_HasTarget, m_s_HasTarget, m_s_l25Slot, m_s_l25Text, range_eq, l1In_eq, e1, e2, e3, e4, sb]
 simp [sb]
 repeat' split
 all_goals simp_all
 all_goals (try omega)
 all_goals (by_cases hT : T = [] <;> by_cases h1 : A < a <;> by_cases h2 : B < a <;> by_cases h3 : A < b <;> first | (simp_all; done) | omega | (simp_all; omega))
theorem ins_5 (A B : Int) (S T : Str) (a b : Int) (gs gt : Bool) (e1 : m_i_goodName S = some gs) (e2 : m_s_l15Name S = some gs) (e3 : m_i_goodName T = some gt) (e4 : m_s_l15Name T = some gt) :
  ∃ v, m_i_IsIns ⟨5, A, B, S, T⟩ a b = some v ∧ m_s_IsIns ⟨5, A, B, S, T⟩ a b = some v := by
 simp only [m_i_IsIns, m_s_IsIns, m_i_knownOp, m_i_operandA, m_i_operandB, m_i_slotOp, m_i_HasTarget, m_s_HasTarget, m_s_l25Slot, m_s_l25Text, range_eq, l1In_eq, e1, e2, e3, e4, sb]
 simp [sb]
 repeat' split
 all_goals simp_all
 all_goals (try omega)
 all_goals (by_cases hT : T = [] <;> by_cases h1 : A < a <;> by_cases h2 : B < a <;> by_cases h3 : A < b <;> first | (simp_all; done) | omega | (simp_all; omega))
theorem ins_6 (A B : Int) (S T : Str) (a b : Int) (gs gt : Bool) (e1 : m_i_goodName S = some gs) (e2 : m_s_l15Name S = some gs) (e3 : m_i_goodName T = some gt) (e4 : m_s_l15Name T = some gt) :
  ∃ v, m_i_IsIns ⟨6, A, B, S, T⟩ a b = some v ∧ m_s_IsIns ⟨6, A, B, S, T⟩ a b = some v := by
 simp only [m_i_IsIns, m_s_IsIns, m_i_knownOp, m_i_operandA, m_i_operandB, m_i_slotOp, m_i_HasTarget, m_s_HasTarget, m_s_l25Slot, m_s_l25Text, range_eq, l1In_eq, e1, e2, e3, e4, sb]
 simp [sb]
 repeat' split
 all_goals simp_all
 all_goals (try omega)
 all_goals (by_cases hT : T = [] <;> by_cases h1 : A < a <;> by_cases h2 : B < a <;> by_cases h3 : A < b <;> first | (simp_all; done) | omega | (simp_all; omega))
theorem ins_7 (A B : Int) (S T : Str) (a b : Int) (gs gt : Bool) (e1 : m_i_goodName S = some gs) (e2 : m_s_l15Name S = some gs) (e3 : m_i_goodName T = some gt) (e4 : m_s_l15Name T = some gt) :
  ∃ v, m_i_IsIns ⟨7, A, B, S, T⟩ a b = some v ∧ m_s_IsIns ⟨7, A, B, S, T⟩ a b = some v := by
 simp only [m_i_IsIns, m_s_IsIns, m_i_knownOp, m_i_operandA, m_i_operandB, m_i_slotOp, m_i_HasTarget, m_s_HasTarget, m_s_l25Slot, m_s_l25Text, range_eq, l1In_eq, e1, e2, e3, e4, sb]
 simp [sb]
 repeat' split
 all_goals simp_all
 all_goals (try omega)
 all_goals (by_cases hT : T = [] <;> by_cases h1 : A < a <;> by_cases h2 : B < a <;> by_cases h3 : A < b <;> first | (simp_all; done) | omega | (simp_all; omega))
theorem ins_8 (A B : Int) (S T : Str) (a b : Int) (gs gt : Bool) (e1 : m_i_goodName S = some gs) (e2 : m_s_l15Name S = some gs) (e3 : m_i_goodName T = some gt) (e4 : m_s_l15Name T = some gt) :
  ∃ v, m_i_IsIns ⟨8, A, B, S, T⟩ a b = some v ∧ m_s_IsIns ⟨8, A, B, S, T⟩ a b = some v := by
 simp only [m_i_IsIns, m_s_IsIns, m_i_knownOp, m_i_operandA, m_i_operandB, m_i_slotOp, m_i_HasTarget, m_s_HasTarget, m_s_l25Slot, m_s_l25Text, range_eq, l1In_eq, e1, e2, e3, e4, sb]
 simp [sb]
 repeat' split
 all_goals simp_all
 all_goals (try omega)
 all_goals (by_cases hT : T = [] <;> by_cases h1 : A < a <;> by_cases h2 : B < a <;> by_cases h3 : A < b <;> first | (simp_all; done) | omega | (simp_all; omega))
theorem ins_9 (A B : Int) (S T : Str) (a b : Int) (gs gt : Bool) (e1 : m_i_goodName S = some gs) (e2 : m_s_l15Name S = some gs) (e3 : m_i_goodName T = some gt) (e4 : m_s_l15Name T = some gt) :
  ∃ v, m_i_IsIns ⟨9, A, B, S, T⟩ a b = some v ∧ m_s_IsIns ⟨9, A, B, S, T⟩ a b = some v := by
 simp only [m_i_IsIns, m_s_IsIns, m_i_knownOp, m_i_operandA, m_i_operandB, m_i_slotOp, m_i_HasTarget, m_s_HasTarget, m_s_l25Slot, m_s_l25Text, range_eq, l1In_eq, e1, e2, e3, e4, sb]
 simp [sb]
 repeat' split
 all_goals simp_all
 all_goals (try omega)
 all_goals (by_cases hT : T = [] <;> by_cases h1 : A < a <;> by_cases h2 : B < a <;> by_cases h3 : A < b <;> first | (simp_all; done) | omega | (simp_all; omega))
theorem ins_10 (A B : Int) (S T : Str) (a b : Int) (gs gt : Bool) (e1 : m_i_goodName S = some gs) (e2 : m_s_l15Name S = some gs) (e3 : m_i_goodName T = some gt) (e4 : m_s_l15Name T = some gt) :
  ∃ v, m_i_IsIns ⟨10, A, B, S, T⟩ a b = some v ∧ m_s_IsIns ⟨10, A, B, S, T⟩ a b = some v := by
 simp only [m_i_IsIns, m_s_IsIns, m_i_knownOp, m_i_operandA, m_i_operandB, m_i_slotOp, m_i_HasTarget, m_s_HasTarget, m_s_l25Slot, m_s_l25Text, range_eq, l1In_eq, e1, e2, e3, e4, sb]
 simp [sb]
 repeat' split
 all_goals simp_all
 all_goals (try omega)
 all_goals (by_cases hT : T = [] <;> by_cases h1 : A < a <;> by_cases h2 : B < a <;> by_cases h3 : A < b <;> first | (simp_all; done) | omega | (simp_all; omega))
theorem ins_11 (A B : Int) (S T : Str) (a b : Int) (gs gt : Bool) (e1 : m_i_goodName S = some gs) (e2 : m_s_l15Name S = some gs) (e3 : m_i_goodName T = some gt) (e4 : m_s_l15Name T = some gt) :
  ∃ v, m_i_IsIns ⟨11, A, B, S, T⟩ a b = some v ∧ m_s_IsIns ⟨11, A, B, S, T⟩ a b = some v := by
 simp only [m_i_IsIns, m_s_IsIns, m_i_knownOp, m_i_operandA, m_i_operandB, m_i_slotOp, m_i_HasTarget, m_s_HasTarget, m_s_l25Slot, m_s_l25Text, range_eq, l1In_eq, e1, e2, e3, e4, sb]
 simp [sb]
 repeat' split
 all_goals simp_all
 all_goals (try omega)
 all_goals (by_cases hT : T = [] <;> by_cases h1 : A < a <;> by_cases h2 : B < a <;> by_cases h3 : A < b <;> first | (simp_all; done) | omega | (simp_all; omega))
theorem ins_12 (A B : Int) (S T : Str) (a b : Int) (gs gt : Bool) (e1 : m_i_goodName S = some gs) (e2 : m_s_l15Name S = some gs) (e3 : m_i_goodName T = some gt) (e4 : m_s_l15Name T = some gt) :
  ∃ v, m_i_IsIns ⟨12, A, B, S, T⟩ a b = some v ∧ m_s_IsIns ⟨12, A, B, S, T⟩ a b = some v := by
 simp only [m_i_IsIns, m_s_IsIns, m_i_knownOp, m_i_operandA, m_i_operandB, m_i_slotOp, m_i_HasTarget, m_s_HasTarget, m_s_l25Slot, m_s_l25Text, range_eq, l1In_eq, e1, e2, e3, e4, sb]
 simp [sb]
 repeat' split
 all_goals simp_all
 all_goals (try omega)
 all_goals (by_cases hT : T = [] <;> by_cases h1 : A < a <;> by_cases h2 : B < a <;> by_cases h3 : A < b <;> first | (simp_all; done) | omega | (simp_all; omega))
theorem ins_13 (A B : Int) (S T : Str) (a b : Int) (gs gt : Bool) (e1 : m_i_goodName S = some gs) (e2 : m_s_l15Name S = some gs) (e3 : m_i_goodName T = some gt) (e4 : m_s_l15Name T = some gt) :
  ∃ v, m_i_IsIns ⟨13, A, B, S, T⟩ a b = some v ∧ m_s_IsIns ⟨13, A, B, S, T⟩ a b = some v := by
 simp only [m_i_IsIns, m_s_IsIns, m_i_knownOp, m_i_operandA, m_i_operandB, m_i_slotOp, m_i_HasTarget, m_s_HasTarget, m_s_l25Slot, m_s_l25Text, range_eq, l1In_eq, e1, e2, e3, e4, sb]
 simp [sb]
 repeat' split
 all_goals simp_all
 all_goals (try omega)
 all_goals (by_cases hT : T = [] <;> by_cases h1 : A < a <;> by_cases h2 : B < a <;> by_cases h3 : A < b <;> first | (simp_all; done) | omega | (simp_all; omega))
theorem ins_14 (A B : Int) (S T : Str) (a b : Int) (gs gt : Bool) (e1 : m_i_goodName S = some gs) (e2 : m_s_l15Name S = some gs) (e3 : m_i_goodName T = some gt) (e4 : m_s_l15Name T = some gt) :
  ∃ v, m_i_IsIns ⟨14, A, B, S, T⟩ a b = some v ∧ m_s_IsIns ⟨14, A, B, S, T⟩ a b = some v := by
 simp only [m_i_IsIns, m_s_IsIns, m_i_knownOp, m_i_operandA, m_i_operandB, m_i_slotOp, m_i_HasTarget, m_s_HasTarget, m_s_l25Slot, m_s_l25Text, range_eq, l1In_eq, e1, e2, e3, e4, sb]
 simp [sb]
 repeat' split
 all_goals simp_all
 all_goals (try omega)
 all_goals (by_cases hT : T = [] <;> by_cases h1 : A < a <;> by_cases h2 : B < a <;> by_cases h3 : A < b <;> first | (simp_all; done) | omega | (simp_all; omega))
theorem ins_15 (A B : Int) (S T : Str) (a b : Int) (gs gt : Bool) (e1 : m_i_goodName S = some gs) (e2 : m_s_l15Name S = some gs) (e3 : m_i_goodName T = some gt) (e4 : m_s_l15Name T = some gt) :
  ∃ v, m_i_IsIns ⟨15, A, B, S, T⟩ a b = some v ∧ m_s_IsIns ⟨15, A, B, S, T⟩ a b = some v := by
 simp only [m_i_IsIns, m_s_IsIns, m_i_knownOp, m_i_operandA, m_i_operandB, m_i_slotOp, m_i_HasTarget, m_s_HasTarget, m_s_l25Slot, m_s_l25Text, range_eq, l1In_eq, e1, e2, e3, e4, sb]
 simp [sb]
 repeat' split
 all_goals simp_all
 all_goals (try omega)
 all_goals (by_cases hT : T = [] <;> by_cases h1 : A < a <;> by_cases h2 : B < a <;> by_cases h3 : A < b <;> first | (simp_all; done) | omega | (simp_all; omega))
theorem ins_16 (A B : Int) (S T : Str) (a b : Int) (gs gt : Bool) (e1 : m_i_goodName S = some gs) (e2 : m_s_l15Name S = some gs) (e3 : m_i_goodName T = some gt) (e4 : m_s_l15Name T = some gt) :
  ∃ v, m_i_IsIns ⟨16, A, B, S, T⟩ a b = some v ∧ m_s_IsIns ⟨16, A, B, S, T⟩ a b = some v := by
 simp only [m_i_IsIns, m_s_IsIns, m_i_knownOp, m_i_operandA, m_i_operandB, m_i_slotOp, m_i_HasTarget, m_s_HasTarget, m_s_l25Slot, m_s_l25Text, range_eq, l1In_eq, e1, e2, e3, e4, sb]
 simp [sb]
 repeat' split
 all_goals simp_all
 all_goals (try omega)
 all_goals (by_cases hT : T = [] <;> by_cases h1 : A < a <;> by_cases h2 : B < a <;> by_cases h3 : A < b <;> first | (simp_all; done) | omega | (simp_all; omega))
theorem ins_17 (A B : Int) (S T : Str) (a b : Int) (gs gt : Bool) (e1 : m_i_goodName S = some gs) (e2 : m_s_l15Name S = some gs) (e3 : m_i_goodName T = some gt) (e4 : m_s_l15Name T = some gt) :
  ∃ v, m_i_IsIns ⟨17, A, B, S, T⟩ a b = some v ∧ m_s_IsIns ⟨17, A, B, S, T⟩ a b = some v := by
 simp only [m_i_IsIns, m_s_IsIns, m_i_knownOp, m_i_operandA, m_i_operandB, m_i_slotOp, m_i_HasTarget, m_s_HasTarget, m_s_l25Slot, m_s_l25Text, range_eq, l1In_eq, e1, e2, e3, e4, sb]
 simp [sb]
 repeat' split
 all_goals simp_all
 all_goals (try omega)
 all_goals (by_cases hT : T = [] <;> by_cases h1 : A < a <;> by_cases h2 : B < a <;> by_cases h3 : A < b <;> first | (simp_all; done) | omega | (simp_all; omega))
theorem ins_18 (A B : Int) (S T : Str) (a b : Int) (gs gt : Bool) (e1 : m_i_goodName S = some gs) (e2 : m_s_l15Name S = some gs) (e3 : m_i_goodName T = some gt) (e4 : m_s_l15Name T = some gt) :
  ∃ v, m_i_IsIns ⟨18, A, B, S, T⟩ a b = some v ∧ m_s_IsIns ⟨18, A, B, S, T⟩ a b = some v := by
 simp only [m_i_IsIns, m_s_IsIns, m_i_knownOp, m_i_operandA, m_i_operandB, m_i_slotOp, m_i_HasTarget, m_s_HasTarget, m_s_l25Slot, m_s_l25Text, range_eq, l1In_eq, e1, e2, e3, e4, sb]
 simp [sb]
 repeat' split
 all_goals simp_all
 all_goals (try omega)
 all_goals (by_cases hT : T = [] <;> by_cases h1 : A < a <;> by_cases h2 : B < a <;> by_cases h3 : A < b <;> first | (simp_all; done) | omega | (simp_all; omega))
theorem ins_19 (A B : Int) (S T : Str) (a b : Int) (gs gt : Bool) (e1 : m_i_goodName S = some gs) (e2 : m_s_l15Name S = some gs) (e3 : m_i_goodName T = some gt) (e4 : m_s_l15Name T = some gt) :
  ∃ v, m_i_IsIns ⟨19, A, B, S, T⟩ a b = some v ∧ m_s_IsIns ⟨19, A, B, S, T⟩ a b = some v := by
 simp only [m_i_IsIns, m_s_IsIns, m_i_knownOp, m_i_operandA, m_i_operandB, m_i_slotOp, m_i_HasTarget, m_s_HasTarget, m_s_l25Slot, m_s_l25Text, range_eq, l1In_eq, e1, e2, e3, e4, sb]
 simp [sb]
 repeat' split
 all_goals simp_all
 all_goals (try omega)
 all_goals (by_cases hT : T = [] <;> by_cases h1 : A < a <;> by_cases h2 : B < a <;> by_cases h3 : A < b <;> first | (simp_all; done) | omega | (simp_all; omega))
theorem ins_20 (A B : Int) (S T : Str) (a b : Int) (gs gt : Bool) (e1 : m_i_goodName S = some gs) (e2 : m_s_l15Name S = some gs) (e3 : m_i_goodName T = some gt) (e4 : m_s_l15Name T = some gt) :
  ∃ v, m_i_IsIns ⟨20, A, B, S, T⟩ a b = some v ∧ m_s_IsIns ⟨20, A, B, S, T⟩ a b = some v := by
 simp only [m_i_IsIns, m_s_IsIns, m_i_knownOp, m_i_operandA, m_i_operandB, m_i_slotOp, m_i_HasTarget, m_s_HasTarget, m_s_l25Slot, m_s_l25Text, range_eq, l1In_eq, e1, e2, e3, e4, sb]
 simp [sb]
 repeat' split
 all_goals simp_all
 all_goals (try omega)
 all_goals (by_cases hT : T = [] <;> by_cases h1 : A < a <;> by_cases h2 : B < a <;> by_cases h3 : A < b <;> first | (simp_all; done) | omega | (simp_all; omega))
theorem ins_21 (A B : Int) (S T : Str) (a b : Int) (gs gt : Bool) (e1 : m_i_goodName S = some gs) (e2 : m_s_l15Name S = some gs) (e3 : m_i_goodName T = some gt) (e4 : m_s_l15Name T = some gt) :
  ∃ v, m_i_IsIns ⟨21, A, B, S, T⟩ a b = some v ∧ m_s_IsIns ⟨21, A, B, S, T⟩ a b = some v := by
 simp only [m_i_IsIns, m_s_IsIns, m_i_knownOp, m_i_operandA, m_i_operandB, m_i_slotOp, m_i_HasTarget, m_s_HasTarget, m_s_l25Slot, m_s_l25Text, range_eq, l1In_eq, e1, e2, e3, e4, sb]
 simp [sb]
 repeat' split
 all_goals simp_all
 all_goals (try omega)
 all_goals (by_cases hT : T = [] <;> by_cases h1 : A < a <;> by_cases h2 : B < a <;> by_cases h3 : A < b <;> first | (simp_all; done) | omega | (simp_all; omega))
theorem ins_22 (A B : Int) (S T : Str) (a b : Int) (gs gt : Bool) (e1 : m_i_goodName S = some gs) (e2 : m_s_l15Name S = some gs) (e3 : m_i_goodName T = some gt) (e4 : m_s_l15Name T = some gt) :
  ∃ v, m_i_IsIns ⟨22, A, B, S, T⟩ a b = some v ∧ m_s_IsIns ⟨22, A, B, S, T⟩ a b = some v := by
 simp only [m_i_IsIns, m_s_IsIns, m_i_knownOp, m_i_operandA, m_i_operandB, m_i_slotOp, m_i_HasTarget, m_s_HasTarget, m_s_l25Slot, m_s_l25Text, range_eq, l1In_eq, e1, e2, e3, e4, sb]
 simp [sb]
 repeat' split
 all_goals simp_all
 all_goals (try omega)
 all_goals (by_cases hT : T = [] <;> by_cases h1 : A < a <;> by_cases h2 : B < a <;> by_cases h3 : A < b <;> first | (simp_all; done) | omega | (simp_all; omega))
theorem ins_23 (A B : Int) (S T : Str) (a b : Int) (gs gt : Bool) (e1 : m_i_goodName S = some gs) (e2 : m_s_l15Name S = some gs) (e3 : m_i_goodName T = some gt) (e4 : m_s_l15Name T = some gt) :
  ∃ v, m_i_IsIns ⟨23, A, B, S, T⟩ a b = some v ∧ m_s_IsIns ⟨23, A, B, S, T⟩ a b = some v := by
 simp only [m_i_IsIns, m_s_IsIns, m_i_knownOp, m_i_operandA, m_i_operandB, m_i_slotOp, m_i_HasTarget, m_s_HasTarget, m_s_l25Slot, m_s_l25Text, range_eq, l1In_eq, e1, e2, e3, e4, sb]
 simp [sb]
 repeat' split
 all_goals simp_all
 all_goals (try omega)
 all_goals (by_cases hT : T = [] <;> by_cases h1 : A < a <;> by_cases h2 : B < a <;> by_cases h3 : A < b <;> first | (simp_all; done) | omega | (simp_all; omega))
theorem ins_24 (A B : Int) (S T : Str) (a b : Int) (gs gt : Bool) (e1 : m_i_goodName S = some gs) (e2 : m_s_l15Name S = some gs) (e3 : m_i_goodName T = some gt) (e4 : m_s_l15Name T = some gt) :
  ∃ v, m_i_IsIns ⟨24, A, B, S, T⟩ a b = some v ∧ m_s_IsIns ⟨24, A, B, S, T⟩ a b = some v := by
 simp only [m_i_IsIns, m_s_IsIns, m_i_knownOp, m_i_operandA, m_i_operandB, m_i_slotOp, m_i_HasTarget, m_s_HasTarget, m_s_l25Slot, m_s_l25Text, range_eq, l1In_eq, e1, e2, e3, e4, sb]
 simp [sb]
 repeat' split
 all_goals simp_all
 all_goals (try omega)
 all_goals (by_cases hT : T = [] <;> by_cases h1 : A < a <;> by_cases h2 : B < a <;> by_cases h3 : A < b <;> first | (simp_all; done) | omega | (simp_all; omega))
theorem ins_25 (A B : Int) (S T : Str) (a b : Int) (gs gt : Bool) (e1 : m_i_goodName S = some gs) (e2 : m_s_l15Name S = some gs) (e3 : m_i_goodName T = some gt) (e4 : m_s_l15Name T = some gt) :
  ∃ v, m_i_IsIns ⟨25, A, B, S, T⟩ a b = some v ∧ m_s_IsIns ⟨25, A, B, S, T⟩ a b = some v := by
 simp only [m_i_IsIns, m_s_IsIns, m_i_knownOp, m_i_operandA, m_i_operandB, m_i_slotOp, m_i_HasTarget, m_s_HasTarget, m_s_l25Slot, m_s_l25Text, range_eq, l1In_eq, e1, e2, e3, e4, sb]
 simp [sb]
 repeat' split
 all_goals simp_all
 all_goals (try omega)
 all_goals (by_cases hT : T = [] <;> by_cases h1 : A < a <;> by_cases h2 : B < a <;> by_cases h3 : A < b <;> first | (simp_all; done) | omega | (simp_all; omega))
theorem ins_26 (A B : Int) (S T : Str) (a b : Int) (gs gt : Bool) (e1 : m_i_goodName S = some gs) (e2 : m_s_l15Name S = some gs) (e3 : m_i_goodName T = some gt) (e4 : m_s_l15Name T = some gt) :
  ∃ v, m_i_IsIns ⟨26, A, B, S, T⟩ a b = some v ∧ m_s_IsIns ⟨26, A, B, S, T⟩ a b = some v := by
 simp only [m_i_IsIns, m_s_IsIns, m_i_knownOp, m_i_operandA, m_i_operandB, m_i_slotOp, m_i_HasTarget, m_s_HasTarget, m_s_l25Slot, m_s_l25Text, range_eq, l1In_eq, e1, e2, e3, e4, sb]
 simp [sb]
 repeat' split
 all_goals simp_all
 all_goals (try omega)
 all_goals (by_cases hT : T = [] <;> by_cases h1 : A < a <;> by_cases h2 : B < a <;> by_cases h3 : A < b <;> first | (simp_all; done) | omega | (simp_all; omega))
theorem ins_27 (A B : Int) (S T : Str) (a b : Int) (gs gt : Bool) (e1 : m_i_goodName S = some gs) (e2 : m_s_l15Name S = some gs) (e3 : m_i_goodName T = some gt) (e4 : m_s_l15Name T = some gt) :
  ∃ v, m_i_IsIns ⟨27, A, B, S, T⟩ a b = some v ∧ m_s_IsIns ⟨27, A, B, S, T⟩ a b = some v := by
 simp only [m_i_IsIns, m_s_IsIns, m_i_knownOp, m_i_operandA, m_i_operandB, m_i_slotOp, m_i_HasTarget, m_s_HasTarget, m_s_l25Slot, m_s_l25Text, range_eq, l1In_eq, e1, e2, e3, e4, sb]
 simp [sb]
 repeat' split
 all_goals simp_all
 all_goals (try omega)
 all_goals (by_cases hT : T = [] <;> by_cases h1 : A < a <;> by_cases h2 : B < a <;> by_cases h3 : A < b <;> first | (simp_all; done) | omega | (simp_all; omega))
theorem ins_28 (A B : Int) (S T : Str) (a b : Int) (gs gt : Bool) (e1 : m_i_goodName S = some gs) (e2 : m_s_l15Name S = some gs) (e3 : m_i_goodName T = some gt) (e4 : m_s_l15Name T = some gt) :
  ∃ v, m_i_IsIns ⟨28, A, B, S, T⟩ a b = some v ∧ m_s_IsIns ⟨28, A, B, S, T⟩ a b = some v := by
 simp only [m_i_IsIns, m_s_IsIns, m_i_knownOp, m_i_operandA, m_i_operandB, m_i_slotOp, m_i_HasTarget, m_s_HasTarget, m_s_l25Slot, m_s_l25Text, range_eq, l1In_eq, e1, e2, e3, e4, sb]
 simp [sb]
 repeat' split
 all_goals simp_all
 all_goals (try omega)
 all_goals (by_cases hT : T = [] <;> by_cases h1 : A < a <;> by_cases h2 : B < a <;> by_cases h3 : A < b <;> first | (simp_all; done) | omega | (simp_all; omega))
theorem ins_29 (A B : Int) (S T : Str) (a b : Int) (gs gt : Bool) (e1 : m_i_goodName S = some gs) (e2 : m_s_l15Name S = some gs) (e3 : m_i_goodName T = some gt) (e4 : m_s_l15Name T = some gt) :
  ∃ v, m_i_IsIns ⟨29, A, B, S, T⟩ a b = some v ∧ m_s_IsIns ⟨29, A, B, S, T⟩ a b = some v := by
 simp only [m_i_IsIns, m_s_IsIns, m_i_knownOp, m_i_operandA, m_i_operandB, m_i_slotOp, m_i_HasTarget, m_s_HasTarget, m_s_l25Slot, m_s_l25Text, range_eq, l1In_eq, e1, e2, e3, e4, sb]
 simp [sb]
 repeat' split
 all_goals simp_all
 all_goals (try omega)
 all_goals (by_cases hT : T = [] <;> by_cases h1 : A < a <;> by_cases h2 : B < a <;> by_cases h3 : A < b <;> first | (simp_all; done) | omega | (simp_all; omega))
theorem ins_30 (A B : Int) (S T : Str) (a b : Int) (gs gt : Bool) (e1 : m_i_goodName S = some gs) (e2 : m_s_l15Name S = some gs) (e3 : m_i_goodName T = some gt) (e4 : m_s_l15Name T = some gt) :
  ∃ v, m_i_IsIns ⟨30, A, B, S, T⟩ a b = some v ∧ m_s_IsIns ⟨30, A, B, S, T⟩ a b = some v := by
 simp only [m_i_IsIns, m_s_IsIns, m_i_knownOp, m_i_operandA, m_i_operandB, m_i_slotOp, m_i_HasTarget, m_s_HasTarget, m_s_l25Slot, m_s_l25Text, range_eq, l1In_eq, e1, e2, e3, e4, sb]
 simp [sb]
 repeat' split
 all_goals simp_all
 all_goals (try omega)
 all_goals (by_cases hT : T = [] <;> by_cases h1 : A < a <;> by_cases h2 : B < a <;> by_cases h3 : A < b <;> first | (simp_all; done) | omega | (simp_all; omega))
theorem ins_31 (A B : Int) (S T : Str) (a b : Int) (gs gt : Bool) (e1 : m_i_goodName S = some gs) (e2 : m_s_l15Name S = some gs) (e3 : m_i_goodName T = some gt) (e4 : m_s_l15Name T = some gt) :
  ∃ v, m_i_IsIns ⟨31, A, B, S, T⟩ a b = some v ∧ m_s_IsIns ⟨31, A, B, S, T⟩ a b = some v := by
 simp only [m_i_IsIns, m_s_IsIns, m_i_knownOp, m_i_operandA, m_i_operandB, m_i_slotOp, m_i_HasTarget, m_s_HasTarget, m_s_l25Slot, m_s_l25Text, range_eq, l1In_eq, e1, e2, e3, e4, sb]
 simp [sb]
 repeat' split
 all_goals simp_all
 all_goals (try omega)
 all_goals (by_cases hT : T = [] <;> by_cases h1 : A < a <;> by_cases h2 : B < a <;> by_cases h3 : A < b <;> first | (simp_all; done) | omega | (simp_all; omega))
theorem ins_32 (A B : Int) (S T : Str) (a b : Int) (gs gt : Bool) (e1 : m_i_goodName S = some gs) (e2 : m_s_l15Name S = some gs) (e3 : m_i_goodName T = some gt) (e4 : m_s_l15Name T = some gt) :
  ∃ v, m_i_IsIns ⟨32, A, B, S, T⟩ a b = some v ∧ m_s_IsIns ⟨32, A, B, S, T⟩ a b = some v := by
 simp only [m_i_IsIns, m_s_IsIns, m_i_knownOp, m_i_operandA, m_i_operandB, m_i_slotOp, m_i_HasTarget, m_s_HasTarget, m_s_l25Slot, m_s_l25Text, range_eq, l1In_eq, e1, e2, e3, e4, sb]
 simp [sb]
 repeat' split
 all_goals simp_all
 all_goals (try omega)
 all_goals (by_cases hT : T = [] <;> by_cases h1 : A < a <;> by_cases h2 : B < a <;> by_cases h3 : A < b <;> first | (simp_all; done) | omega | (simp_all; omega))
theorem ins_33 (A B : Int) (S T : Str) (a b : Int) (gs gt : Bool) (e1 : m_i_goodName S = some gs) (e2 : m_s_l15Name S = some gs) (e3 : m_i_goodName T = some gt) (e4 : m_s_l15Name T = some gt) :
  ∃ v, m_i_IsIns ⟨33, A, B, S, T⟩ a b = some v ∧ m_s_IsIns ⟨33, A, B, S, T⟩ a b = some v := by
 simp only [m_i_IsIns, m_s_IsIns, m_i_knownOp, m_i_operandA, m_i_operandB, m_i_slotOp, m_i_HasTarget, m_s_HasTarget, m_s_l25Slot, m_s_l25Text, range_eq, l1In_eq, e1, e2, e3, e4, sb]
 simp [sb]
 repeat' split
 all_goals simp_all
 all_goals (try omega)
 all_goals (by_cases hT : T = [] <;> by_cases h1 : A < a <;> by_cases h2 : B < a <;> by_cases h3 : A < b <;> first | (simp_all; done) | omega | (simp_all; omega))
theorem ins_34 (A B : Int) (S T : Str) (a b : Int) (gs gt : Bool) (e1 : m_i_goodName S = some gs) (e2 : m_s_l15Name S = some gs) (e3 : m_i_goodName T = some gt) (e4 : m_s_l15Name T = some gt) :
  ∃ v, m_i_IsIns ⟨34, A, B, S, T⟩ a b = some v ∧ m_s_IsIns ⟨34, A, B, S, T⟩ a b = some v := by
 simp only [m_i_IsIns, m_s_IsIns, m_i_knownOp, m_i_operandA, m_i_operandB, m_i_slotOp, m_i_HasTarget, m_s_HasTarget, m_s_l25Slot, m_s_l25Text, range_eq, l1In_eq, e1, e2, e3, e4, sb]
 simp [sb]
 repeat' split
 all_goals simp_all
 all_goals (try omega)
 all_goals (by_cases hT : T = [] <;> by_cases h1 : A < a <;> by_cases h2 : B < a <;> by_cases h3 : A < b <;> first | (simp_all; done) | omega | (simp_all; omega))
theorem ins_35 (A B : Int) (S T : Str) (a b : Int) (gs gt : Bool) (e1 : m_i_goodName S = some gs) (e2 : m_s_l15Name S = some gs) (e3 : m_i_goodName T = some gt) (e4 : m_s_l15Name T = some gt) :
  ∃ v, m_i_IsIns ⟨35, A, B, S, T⟩ a b = some v ∧ m_s_IsIns ⟨35, A, B, S, T⟩ a b = some v := by
 simp only [m_i_IsIns, m_s_IsIns, m_i_knownOp, m_i_operandA, m_i_operandB, m_i_slotOp, m_i_HasTarget, m_s_HasTarget, m_s_l25Slot, m_s_l25Text, range_eq, l1In_eq, e1, e2, e3, e4, sb]
 simp [sb]
 repeat' split
 all_goals simp_all
 all_goals (try omega)
 all_goals (by_cases hT : T = [] <;> by_cases h1 : A < a <;> by_cases h2 : B < a <;> by_cases h3 : A < b <;> first | (simp_all; done) | omega | (simp_all; omega))
theorem ins_36 (A B : Int) (S T : Str) (a b : Int) (gs gt : Bool) (e1 : m_i_goodName S = some gs) (e2 : m_s_l15Name S = some gs) (e3 : m_i_goodName T = some gt) (e4 : m_s_l15Name T = some gt) :
  ∃ v, m_i_IsIns ⟨36, A, B, S, T⟩ a b = some v ∧ m_s_IsIns ⟨36, A, B, S, T⟩ a b = some v := by
 simp only [m_i_IsIns, m_s_IsIns, m_i_knownOp, m_i_operandA, m_i_operandB, m_i_slotOp, m_i_HasTarget, m_s_HasTarget, m_s_l25Slot, m_s_l25Text, range_eq, l1In_eq, e1, e2, e3, e4, sb]
 simp [sb]
 repeat' split
 all_goals simp_all
 all_goals (try omega)
 all_goals (by_cases hT : T = [] <;> by_cases h1 : A < a <;> by_cases h2 : B < a <;> by_cases h3 : A < b <;> first | (simp_all; done) | omega | (simp_all; omega))
theorem ins_37 (A B : Int) (S T : Str) (a b : Int) (gs gt : Bool) (e1 : m_i_goodName S = some gs) (e2 : m_s_l15Name S = some gs) (e3 : m_i_goodName T = some gt) (e4 : m_s_l15Name T = some gt) :
  ∃ v, m_i_IsIns ⟨37, A, B, S, T⟩ a b = some v ∧ m_s_IsIns ⟨37, A, B, S, T⟩ a b = some v := by
 simp only [m_i_IsIns, m_s_IsIns, m_i_knownOp, m_i_operandA, m_i_operandB, m_i_slotOp, m_i_HasTarget, m_s_HasTarget, m_s_l25Slot, m_s_l25Text, range_eq, l1In_eq, e1, e2, e3, e4, sb]
 simp [sb]
 repeat' split
 all_goals simp_all
 all_goals (try omega)
 all_goals (by_cases hT : T = [] <;> by_cases h1 : A < a <;> by_cases h2 : B < a <;> by_cases h3 : A < b <;> first | (simp_all; done) | omega | (simp_all; omega))
theorem ins_38 (A B : Int) (S T : Str) (a b : Int) (gs gt : Bool) (e1 : m_i_goodName S = some gs) (e2 : m_s_l15Name S = some gs) (e3 : m_i_goodName T = some gt) (e4 : m_s_l15Name T = some gt) :
  ∃ v, m_i_IsIns ⟨38, A, B, S, T⟩ a b = some v ∧ m_s_IsIns ⟨38, A, B, S, T⟩ a b = some v := by
 simp only [m_i_IsIns, m_s_IsIns, m_i_knownOp, m_i_operandA, m_i_operandB, m_i_slotOp, m_i_HasTarget, m_s_HasTarget, m_s_l25Slot, m_s_l25Text, range_eq, l1In_eq, e1, e2, e3, e4, sb]
 simp [sb]
 repeat' split
 all_goals simp_all
 all_goals (try omega)
 all_goals (by_cases hT : T = [] <;> by_cases h1 : A < a <;> by_cases h2 : B < a <;> by_cases h3 : A < b <;> first | (simp_all; done) | omega | (simp_all; omega))
theorem ins_39 (A B : Int) (S T : Str) (a b : Int) (gs gt : Bool) (e1 : m_i_goodName S = some gs) (e2 : m_s_l15Name S = some gs) (e3 : m_i_goodName T = some gt) (e4 : m_s_l15Name T = some gt) :
  ∃ v, m_i_IsIns ⟨39, A, B, S, T⟩ a b = some v ∧ m_s_IsIns ⟨39, A, B, S, T⟩ a b = some v := by
 simp only [m_i_IsIns, m_s_IsIns, m_i_knownOp, m_i_operandA, m_i_operandB, m_i_slotOp, m_i_HasTarget, m_s_HasTarget, m_s_l25Slot, m_s_l25Text, range_eq, l1In_eq, e1, e2, e3, e4, sb]
 simp [sb]
 repeat' split
 all_goals simp_all
 all_goals (try omega)
 all_goals (by_cases hT : T = [] <;> by_cases h1 : A < a <;> by_cases h2 : B < a <;> by_cases h3 : A < b <;> first | (simp_all; done) | omega | (simp_all; omega))
theorem ins_40 (A B : Int) (S T : Str) (a b : Int) (gs gt : Bool) (e1 : m_i_goodName S = some gs) (e2 : m_s_l15Name S = some gs) (e3 : m_i_goodName T = some gt) (e4 : m_s_l15Name T = some gt) :
  ∃ v, m_i_IsIns ⟨40, A, B, S, T⟩ a b = some v ∧ m_s_IsIns ⟨40, A, B, S, T⟩ a b = some v := by
 simp only [m_i_IsIns, m_s_IsIns, m_i_knownOp, m_i_operandA, m_i_operandB, m_i_slotOp, m_i_HasTarget, m_s_HasTarget, m_s_l25Slot, m_s_l25Text, range_eq, l1In_eq, e1, e2, e3, e4, sb]
 simp [sb]
 repeat' split
 all_goals simp_all
 all_goals (try omega)
 all_goals (by_cases hT : T = [] <;> by_cases h1 : A < a <;> by_cases h2 : B < a <;> by_cases h3 : A < b <;> first | (simp_all; done) | omega | (simp_all; omega))
theorem ins_41 (A B : Int) (S T : Str) (a b : Int) (gs gt : Bool) (e1 : m_i_goodName S = some gs) (e2 : m_s_l15Name S = some gs) (e3 : m_i_goodName T = some gt) (e4 : m_s_l15Name T = some gt) :
  ∃ v, m_i_IsIns ⟨41, A, B, S, T⟩ a b = some v ∧ m_s_IsIns ⟨41, A, B, S, T⟩ a b = some v := by
 simp only [m_i_IsIns, m_s_IsIns, m_i_knownOp, m_i_operandA, m_i_operandB, m_i_slotOp, m_i_HasTarget, m_s_HasTarget, m_s_l25Slot, m_s_l25Text, range_eq, l1In_eq, e1, e2, e3, e4, sb]
 simp [sb]
 repeat' split
 all_goals simp_all
 all_goals (try omega)
 all_goals (by_cases hT : T = [] <;> by_cases h1 : A < a <;> by_cases h2 : B < a <;> by_cases h3 : A < b <;> first | (simp_all; done) | omega | (simp_all; omega))
theorem ins_42 (A B : Int) (S T : Str) (a b : Int) (gs gt : Bool) (e1 : m_i_goodName S = some gs) (e2 : m_s_l15Name S = some gs) (e3 : m_i_goodName T = some gt) (e4 : m_s_l15Name T = some gt) :
  ∃ v, m_i_IsIns ⟨42, A, B, S, T⟩ a b = some v ∧ m_s_IsIns ⟨42, A, B, S, T⟩ a b = some v := by
 simp only [m_i_IsIns, m_s_IsIns, m_i_knownOp, m_i_operandA, m_i_operandB, m_i_slotOp, m_i_HasTarget, m_s_HasTarget, m_s_l25Slot, m_s_l25Text, range_eq, l1In_eq, e1, e2, e3, e4, sb]
 simp [sb]
 repeat' split
 all_goals simp_all
 all_goals (try omega)
 all_goals (by_cases hT : T = [] <;> by_cases h1 : A < a <;> by_cases h2 : B < a <;> by_cases h3 : A < b <;> first | (simp_all; done) | omega | (simp_all; omega))
theorem ins_43 (A B : Int) (S T : Str) (a b : Int) (gs gt : Bool) (e1 : m_i_goodName S = some gs) (e2 : m_s_l15Name S = some gs) (e3 : m_i_goodName T = some gt) (e4 : m_s_l15Name T = some gt) :
  ∃ v, m_i_IsIns ⟨43, A, B, S, T⟩ a b = some v ∧ m_s_IsIns ⟨43, A, B, S, T⟩ a b = some v := by
 simp only [m_i_IsIns, m_s_IsIns, m_i_knownOp, m_i_operandA, m_i_operandB, m_i_slotOp, m_i_HasTarget, m_s_HasTarget, m_s_l25Slot, m_s_l25Text, range_eq, l1In_eq, e1, e2, e3, e4, sb]
 simp [sb]
 repeat' split
 all_goals simp_all
 all_goals (try omega)
 all_goals (by_cases hT : T = [] <;> by_cases h1 : A < a <;> by_cases h2 : B < a <;> by_cases h3 : A < b <;> first | (simp_all; done) | omega | (simp_all; omega))
theorem ins_44 (A B : Int) (S T : Str) (a b : Int) (gs gt : Bool) (e1 : m_i_goodName S = some gs) (e2 : m_s_l15Name S = some gs) (e3 : m_i_goodName T = some gt) (e4 : m_s_l15Name T = some gt) :
  ∃ v, m_i_IsIns ⟨44, A, B, S, T⟩ a b = some v ∧ m_s_IsIns ⟨44, A, B, S, T⟩ a b = some v := by
 simp only [m_i_IsIns, m_s_IsIns, m_i_knownOp, m_i_operandA, m_i_operandB, m_i_slotOp, m_i_HasTarget, m_s_HasTarget, m_s_l25Slot, m_s_l25Text, range_eq, l1In_eq, e1, e2, e3, e4, sb]
 simp [sb]
 repeat' split
 all_goals simp_all
 all_goals (try omega)
 all_goals (by_cases hT : T = [] <;> by_cases h1 : A < a <;> by_cases h2 : B < a <;> by_cases h3 : A < b <;> first | (simp_all; done) | omega | (simp_all; omega))
theorem ins_45 (A B : Int) (S T : Str) (a b : Int) (gs gt : Bool) (e1 : m_i_goodName S = some gs) (e2 : m_s_l15Name S = some gs) (e3 : m_i_goodName T = some gt) (e4 : m_s_l15Name T = some gt) :
  ∃ v, m_i_IsIns ⟨45, A, B, S, T⟩ a b = some v ∧ m_s_IsIns ⟨45, A, B, S, T⟩ a b = some v := by
 simp only [m_i_IsIns, m_s_IsIns, m_i_knownOp, m_i_operandA, m_i_operandB, m_i_slotOp, m_i_HasTarget, m_s_HasTarget, m_s_l25Slot, m_s_l25Text, range_eq, l1In_eq, e1, e2, e3, e4, sb]
 simp [sb]
 repeat' split
 all_goals simp_all
 all_goals (try omega)
 all_goals (by_cases hT : T = [] <;> by_cases h1 : A < a <;> by_cases h2 : B < a <;> by_cases h3 : A < b <;> first | (simp_all; done) | omega | (simp_all; omega))
theorem ins_46 (A B : Int) (S T : Str) (a b : Int) (gs gt : Bool) (e1 : m_i_goodName S = some gs) (e2 : m_s_l15Name S = some gs) (e3 : m_i_goodName T = some gt) (e4 : m_s_l15Name T = some gt) :
  ∃ v, m_i_IsIns ⟨46, A, B, S, T⟩ a b = some v ∧ m_s_IsIns ⟨46, A, B, S, T⟩ a b = some v := by
 simp only [m_i_IsIns, m_s_IsIns, m_i_knownOp, m_i_operandA, m_i_operandB, m_i_slotOp, m_i_HasTarget, m_s_HasTarget, m_s_l25Slot, m_s_l25Text, range_eq, l1In_eq, e1, e2, e3, e4, sb]
 simp [sb]
 repeat' split
 all_goals simp_all
 all_goals (try omega)
 all_goals (by_cases hT : T = [] <;> by_cases h1 : A < a <;> by_cases h2 : B < a <;> by_cases h3 : A < b <;> first | (simp_all; done) | omega | (simp_all; omega))
theorem ins_47 (A B : Int) (S T : Str) (a b : Int) (gs gt : Bool) (e1 : m_i_goodName S = some gs) (e2 : m_s_l15Name S = some gs) (e3 : m_i_goodName T = some gt) (e4 : m_s_l15Name T = some gt) :
  ∃ v, m_i_IsIns ⟨47, A, B, S, T⟩ a b = some v ∧ m_s_IsIns ⟨47, A, B, S, T⟩ a b = some v := by
 simp only [m_i_IsIns, m_s_IsIns, m_i_knownOp, m_i_operandA, m_i_operandB, m_i_slotOp, m_i_HasTarget, m_s_HasTarget, m_s_l25Slot, m_s_l25Text, range_eq, l1In_eq, e1, e2, e3, e4, sb]
 simp [sb]
 repeat' split
 all_goals simp_all
 all_goals (try omega)
 all_goals (by_cases hT : T = [] <;> by_cases h1 : A < a <;> by_cases h2 : B < a <;> by_cases h3 : A < b <;> first | (simp_all; done) | omega | (simp_all; omega))
theorem ins_48 (A B : Int) (S T : Str) (a b : Int) (gs gt : Bool) (e1 : m_i_goodName S = some gs) (e2 : m_s_l15Name S = some gs) (e3 : m_i_goodName T = some gt) (e4 : m_s_l15Name T = some gt) :
  ∃ v, m_i_IsIns ⟨48, A, B, S, T⟩ a b = some v ∧ m_s_IsIns ⟨48, A, B, S, T⟩ a b = some v := by
 simp only [m_i_IsIns, m_s_IsIns, m_i_knownOp, m_i_operandA, m_i_operandB, m_i_slotOp, m_i_HasTarget, m_s_HasTarget, m_s_l25Slot, m_s_l25Text, range_eq, l1In_eq, e1, e2, e3, e4, sb]
 simp [sb]
 repeat' split
 all_goals simp_all
 all_goals (try omega)
 all_goals (by_cases hT : T = [] <;> by_cases h1 : A < a <;> by_cases h2 : B < a <;> by_cases h3 : A < b <;> first | (simp_all; done) | omega | (simp_all; omega))
theorem ins_49 (A B : Int) (S T : Str) (a b : Int) (gs gt : Bool) (e1 : m_i_goodName S = some gs) (e2 : m_s_l15Name S = some gs) (e3 : m_i_goodName T = some gt) (e4 : m_s_l15Name T = some gt) :
  ∃ v, m_i_IsIns ⟨49, A, B, S, T⟩ a b = some v ∧ m_s_IsIns ⟨49, A, B, S, T⟩ a b = some v := by
 simp only [m_i_IsIns, m_s_IsIns, m_i_knownOp, m_i_operandA, m_i_operandB, m_i_slotOp, m_i_HasTarget, m_s_HasTarget, m_s_l25Slot, m_s_l25Text, range_eq, l1In_eq, e1, e2, e3, e4, sb]
 simp [sb]
 repeat' split
 all_goals simp_all
 all_goals (try omega)
 all_goals (by_cases hT : T = [] <;> by_cases h1 : A < a <;> by_cases h2 : B < a <;> by_cases h3 : A < b <;> first | (simp_all; done) | omega | (simp_all; omega))
theorem ins_50 (A B : Int) (S T : Str) (a b : Int) (gs gt : Bool) (e1 : m_i_goodName S = some gs) (e2 : m_s_l15Name S = some gs) (e3 : m_i_goodName T = some gt) (e4 : m_s_l15Name T = some gt) :
  ∃ v, m_i_IsIns ⟨50, A, B, S, T⟩ a b = some v ∧ m_s_IsIns ⟨50, A, B, S, T⟩ a b = some v := by
 simp only [m_i_IsIns, m_s_IsIns, m_i_knownOp, m_i_operandA, m_i_operandB, m_i_slotOp, m_i_HasTarget, m_s_HasTarget, m_s_l25Slot, m_s_l25Text, range_eq, l1In_eq, e1, e2, e3, e4, sb]
 simp [sb]
 repeat' split
 all_goals simp_all
 all_goals (try omega)
 all_goals (by_cases hT : T = [] <;> by_cases h1 : A < a <;> by_cases h2 : B < a <;> by_cases h3 : A < b <;> first | (simp_all; done) | omega | (simp_all; omega))
theorem ins_51 (A B : Int) (S T : Str) (a b : Int) (gs gt : Bool) (e1 : m_i_goodName S = some gs) (e2 : m_s_l15Name S = some gs) (e3 : m_i_goodName T = some gt) (e4 : m_s_l15Name T = some gt) :
  ∃ v, m_i_IsIns ⟨51, A, B, S, T⟩ a b = some v ∧ m_s_IsIns ⟨51, A, B, S, T⟩ a b = some v := by
 simp only [m_i_IsIns, m_s_IsIns, m_i_knownOp, m_i_operandA, m_i_operandB, m_i_slotOp, m_i_HasTarget, m_s_HasTarget, m_s_l25Slot, m_s_l25Text, range_eq, l1In_eq, e1, e2, e3, e4, sb]
 simp [sb]
 repeat' split
 all_goals simp_all
 all_goals (try omega)
 all_goals (by_cases hT : T = [] <;> by_cases h1 : A < a <;> by_cases h2 : B < a <;> by_cases h3 : A < b <;> first | (simp_all; done) | omega | (simp_all; omega))
theorem ins_52 (A B : Int) (S T : Str) (a b : Int) (gs gt : Bool) (e1 : m_i_goodName S = some gs) (e2 : m_s_l15Name S = some gs) (e3 : m_i_goodName T = some gt) (e4 : m_s_l15Name T = some gt) :
  ∃ v, m_i_IsIns ⟨52, A, B, S, T⟩ a b = some v ∧ m_s_IsIns ⟨52, A, B, S, T⟩ a b = some v := by
 simp only [m_i_IsIns, m_s_IsIns, m_i_knownOp, m_i_operandA, m_i_operandB, m_i_slotOp, m_i_HasTarget, m_s_HasTarget, m_s_l25Slot, m_s_l25Text, range_eq, l1In_eq, e1, e2, e3, e4, sb]
 simp [sb]
 repeat' split
 all_goals simp_all
 all_goals (try omega)
 all_goals (by_cases hT : T = [] <;> by_cases h1 : A < a <;> by_cases h2 : B < a <;> by_cases h3 : A < b <;> first | (simp_all; done) | omega | (simp_all; omega))
theorem ins_53 (A B : Int) (S T : Str) (a b : Int) (gs gt : Bool) (e1 : m_i_goodName S = some gs) (e2 : m_s_l15Name S = some gs) (e3 : m_i_goodName T = some gt) (e4 : m_s_l15Name T = some gt) :
  ∃ v, m_i_IsIns ⟨53, A, B, S, T⟩ a b = some v ∧ m_s_IsIns ⟨53, A, B, S, T⟩ a b = some v := by
 simp only [m_i_IsIns, m_s_IsIns, m_i_knownOp, m_i_operandA, m_i_operandB, m_i_slotOp, m_i_HasTarget, m_s_HasTarget, m_s_l25Slot, m_s_l25Text, range_eq, l1In_eq, e1, e2, e3, e4, sb]
 simp [sb]
 repeat' split
 all_goals simp_all
 all_goals (try omega)
 all_goals (by_cases hT : T = [] <;> by_cases h1 : A < a <;> by_cases h2 : B < a <;> by_cases h3 : A < b <;> first | (simp_all; done) | omega | (simp_all; omega))
theorem ins_54 (A B : Int) (S T : Str) (a b : Int) (gs gt : Bool) (e1 : m_i_goodName S = some gs) (e2 : m_s_l15Name S = some gs) (e3 : m_i_goodName T = some gt) (e4 : m_s_l15Name T = some gt) :
  ∃ v, m_i_IsIns ⟨54, A, B, S, T⟩ a b = some v ∧ m_s_IsIns ⟨54, A, B, S, T⟩ a b = some v := by
 simp only [m_i_IsIns, m_s_IsIns, m_i_knownOp, m_i_operandA, m_i_operandB, m_i_slotOp, m_i_HasTarget, m_s_HasTarget, m_s_l25Slot, m_s_l25Text, range_eq, l1In_eq, e1, e2, e3, e4, sb]
 simp [sb]
 repeat' split
 all_goals simp_all
 all_goals (try omega)
 all_goals (by_cases hT : T = [] <;> by_cases h1 : A < a <;> by_cases h2 : B < a <;> by_cases h3 : A < b <;> first | (simp_all; done) | omega | (simp_all; omega))
theorem ins_55 (A B : Int) (S T : Str) (a b : Int) (gs gt : Bool) (e1 : m_i_goodName S = some gs) (e2 : m_s_l15Name S = some gs) (e3 : m_i_goodName T = some gt) (e4 : m_s_l15Name T = some gt) :
  ∃ v, m_i_IsIns ⟨55, A, B, S, T⟩ a b = some v ∧ m_s_IsIns ⟨55, A, B, S, T⟩ a b = some v := by
 simp only [m_i_IsIns, m_s_IsIns, m_i_knownOp, m_i_operandA, m_i_operandB, m_i_slotOp, m_i_HasTarget, m_s_HasTarget, m_s_l25Slot, m_s_l25Text, range_eq, l1In_eq, e1, e2, e3, e4, sb]
 simp [sb]
 repeat' split
 all_goals simp_all
 all_goals (try omega)
 all_goals (by_cases hT : T = [] <;> by_cases h1 : A < a <;> by_cases h2 : B < a <;> by_cases h3 : A < b <;> first | (simp_all; done) | omega | (simp_all; omega))
theorem ins_56 (A B : Int) (S T : Str) (a b : Int) (gs gt : Bool) (e1 : m_i_goodName S = some gs) (e2 : m_s_l15Name S = some gs) (e3 : m_i_goodName T = some gt) (e4 : m_s_l15Name T = some gt) :
  ∃ v, m_i_IsIns ⟨56, A, B, S, T⟩ a b = some v ∧ m_s_IsIns ⟨56, A, B, S, T⟩ a b = some v := by
 simp only [m_i_IsIns, m_s_IsIns, m_i_knownOp, m_i_operandA, m_i_operandB, m_i_slotOp, m_i_HasTarget, m_s_HasTarget, m_s_l25Slot, m_s_l25Text, range_eq, l1In_eq, e1, e2, e3, e4, sb]
 simp [sb]
 repeat' split
 all_goals simp_all
 all_goals (try omega)
 all_goals (by_cases hT : T = [] <;> by_cases h1 : A < a <;> by_cases h2 : B < a <;> by_cases h3 : A < b <;> first | (simp_all; done) | omega | (simp_all; omega))
theorem isIns_eq (x : TIns) (a b : Int) : ∃ v, m_i_IsIns x a b = some v ∧ m_s_IsIns x a b = some v := by
 obtain ⟨n, A, B, S, T⟩ := x
 obtain ⟨gs, e1, e2⟩ := good_eq S
 obtain ⟨gt, e3, e4⟩ := good_eq T
 by_cases hn : 1 ≤ n ∧ n ≤ 56
 ·obtain ⟨k, rfl⟩ : ∃ k : Nat, n = (k : Int) := ⟨n.toNat, by omega⟩
  have hk : k ≤ 56 := by omega
  have h1 : 1 ≤ k := by omega
  clear hn
  match k, hk, h1 with
  | 0, _, h1 => exact absurd h1 (by decide)
  | 1, _, _ => exact ins_1 A B S T a b gs gt e1 e2 e3 e4
  | 2, _, _ => exact ins_2 A B S T a b gs gt e1 e2 e3 e4
  | 3, _, _ => exact ins_3 A B S T a b gs gt e1 e2 e3 e4
  | 4, _, _ => exact ins_4 A B S T a b gs gt e1 e2 e3 e4
  | 5, _, _ => exact ins_5 A B S T a b gs gt e1 e2 e3 e4
  | 6, _, _ => exact ins_6 A B S T a b gs gt e1 e2 e3 e4
  | 7, _, _ => exact ins_7 A B S T a b gs gt e1 e2 e3 e4
  | 8, _, _ => exact ins_8 A B S T a b gs gt e1 e2 e3 e4
  | 9, _, _ => exact ins_9 A B S T a b gs gt e1 e2 e3 e4
  | 10, _, _ => exact ins_10 A B S T a b gs gt e1 e2 e3 e4
  | 11, _, _ => exact ins_11 A B S T a b gs gt e1 e2 e3 e4
  | 12, _, _ => exact ins_12 A B S T a b gs gt e1 e2 e3 e4
  | 13, _, _ => exact ins_13 A B S T a b gs gt e1 e2 e3 e4
  | 14, _, _ => exact ins_14 A B S T a b gs gt e1 e2 e3 e4
  | 15, _, _ => exact ins_15 A B S T a b gs gt e1 e2 e3 e4
  | 16, _, _ => exact ins_16 A B S T a b gs gt e1 e2 e3 e4
  | 17, _, _ => exact ins_17 A B S T a b gs gt e1 e2 e3 e4
  | 18, _, _ => exact ins_18 A B S T a b gs gt e1 e2 e3 e4
  | 19, _, _ => exact ins_19 A B S T a b gs gt e1 e2 e3 e4
  | 20, _, _ => exact ins_20 A B S T a b gs gt e1 e2 e3 e4
  | 21, _, _ => exact ins_21 A B S T a b gs gt e1 e2 e3 e4
  | 22, _, _ => exact ins_22 A B S T a b gs gt e1 e2 e3 e4
  | 23, _, _ => exact ins_23 A B S T a b gs gt e1 e2 e3 e4
  | 24, _, _ => exact ins_24 A B S T a b gs gt e1 e2 e3 e4
  | 25, _, _ => exact ins_25 A B S T a b gs gt e1 e2 e3 e4
  | 26, _, _ => exact ins_26 A B S T a b gs gt e1 e2 e3 e4
  | 27, _, _ => exact ins_27 A B S T a b gs gt e1 e2 e3 e4
  | 28, _, _ => exact ins_28 A B S T a b gs gt e1 e2 e3 e4
  | 29, _, _ => exact ins_29 A B S T a b gs gt e1 e2 e3 e4
  | 30, _, _ => exact ins_30 A B S T a b gs gt e1 e2 e3 e4
  | 31, _, _ => exact ins_31 A B S T a b gs gt e1 e2 e3 e4
  | 32, _, _ => exact ins_32 A B S T a b gs gt e1 e2 e3 e4
  | 33, _, _ => exact ins_33 A B S T a b gs gt e1 e2 e3 e4
  | 34, _, _ => exact ins_34 A B S T a b gs gt e1 e2 e3 e4
  | 35, _, _ => exact ins_35 A B S T a b gs gt e1 e2 e3 e4
  | 36, _, _ => exact ins_36 A B S T a b gs gt e1 e2 e3 e4
  | 37, _, _ => exact ins_37 A B S T a b gs gt e1 e2 e3 e4
  | 38, _, _ => exact ins_38 A B S T a b gs gt e1 e2 e3 e4
  | 39, _, _ => exact ins_39 A B S T a b gs gt e1 e2 e3 e4
  | 40, _, _ => exact ins_40 A B S T a b gs gt e1 e2 e3 e4
  | 41, _, _ => exact ins_41 A B S T a b gs gt e1 e2 e3 e4
  | 42, _, _ => exact ins_42 A B S T a b gs gt e1 e2 e3 e4
  | 43, _, _ => exact ins_43 A B S T a b gs gt e1 e2 e3 e4
  | 44, _, _ => exact ins_44 A B S T a b gs gt e1 e2 e3 e4
  | 45, _, _ => exact ins_45 A B S T a b gs gt e1 e2 e3 e4
  | 46, _, _ => exact ins_46 A B S T a b gs gt e1 e2 e3 e4
  | 47, _, _ => exact ins_47 A B S T a b gs gt e1 e2 e3 e4
  | 48, _, _ => exact ins_48 A B S T a b gs gt e1 e2 e3 e4
  | 49, _, _ => exact ins_49 A B S T a b gs gt e1 e2 e3 e4
  | 50, _, _ => exact ins_50 A B S T a b gs gt e1 e2 e3 e4
  | 51, _, _ => exact ins_51 A B S T a b gs gt e1 e2 e3 e4
  | 52, _, _ => exact ins_52 A B S T a b gs gt e1 e2 e3 e4
  | 53, _, _ => exact ins_53 A B S T a b gs gt e1 e2 e3 e4
  | 54, _, _ => exact ins_54 A B S T a b gs gt e1 e2 e3 e4
  | 55, _, _ => exact ins_55 A B S T a b gs gt e1 e2 e3 e4
  | 56, _, _ => exact ins_56 A B S T a b gs gt e1 e2 e3 e4
  | k + 57, hk, _ => exact absurd hk (by omega)
 ·refine ⟨false, ?_, ?_⟩
  ·unfold m_i_IsIns m_i_knownOp
   rw [range_eq, sb, sb, if_neg (by simpa using hn)]
  ·have key : ∀ {α : Type} {X : Option α} {f : α → Option Bool}, (∃ a, X = some a) → (∀ a, f a = some false) → (X >>= f) = some false := fun {α X f} h1 h2 => by
    obtain ⟨a, rfl⟩ := h1
    exact h2 a
   have htx := text_ex n
   have hsl := slot_ex n
   have htg : ∃ b, m_s_HasTarget n = some b := ⟨_, sTgt n⟩
   have hin : ∀ a b c, ∃ v, m_s_l1In a b c = some v := fun a b c => ⟨_, l1In_eq a b c⟩
   unfold m_s_IsIns
   refine key ?_ (fun _ => key ?_ (fun _ => key ?_ (fun _ => key ?_ (fun _ => key ?_ (fun _ => key ?_ (fun _ => ?_))))))
   iterate 6 (repeat first | exact ⟨_, rfl⟩ | exact ⟨_, e2⟩ | exact ⟨_, e4⟩ | exact htx | exact hsl | exact htg | exact hin _ _ _ | refine t_ite ?_ ?_ | refine t_bind ?_ (fun _ => ?_))
   rw [l1In_eq, sb, if_neg (by simpa using hn)]
end Go.Am
set_option linter.unusedVariables false
set_option linter.unusedSimpArgs false
namespace Go.Am
open Go Go.RowKit Go.Proofs
def gI (l : List Int) (i : Nat) : Int := l.getD i 0
theorem idx_gI {l : List Int} {i : Nat} (h : i < l.length) : idx l (i : Int) = some (gI l i) := by
 rw [idx_nat h, gI, List.getD_eq_getElem?_getD, List.getElem?_eq_getElem h]; rfl
theorem gI_at {l : List Int} {i : Nat} (h : i < l.length) : gI l i = l[i] := by
 rw [gI, List.getD_eq_getElem?_getD, List.getElem?_eq_getElem h]; rfl
theorem gI_set {l : List Int} {a i : Nat} {b : Int} : gI (l.set a b) i = if a = i ∧ a < l.length then b else gI l i := by
 rw [gI, gI, List.getD_eq_getElem?_getD, List.getD_eq_getElem?_getD, List.getElem?_set]
 by_cases h : a = i
 ·subst h
  rw [if_pos rfl]
  by_cases h2 : a < l.length
  ·rw [if_pos h2, if_pos ⟨rfl, h2⟩]; rfl
  ·rw [if_neg h2, if_neg (fun h => h2 h.2), List.getElem?_eq_none (by omega)]
 ·rw [if_neg h, if_neg (fun h2 => h h2.1)]
def neg (l : List Int) : Nat := l.countP (fun x => decide (x < 0))
theorem neg_le (l : List Int) : neg l ≤ l.length := List.countP_le_length
theorem neg_set {l : List Int} {a : Nat} {b : Int} (ha : a < l.length) (h1 : gI l a < 0) (hb : 0 ≤ b) : neg (l.set a b) + 1 = neg l := by
 rw [gI_at ha] at h1
 have hp : 0 < neg l := List.countP_pos_iff.2 ⟨l[a], List.getElem_mem ha, by simpa using h1⟩
 unfold neg at hp ⊢
 rw [List.countP_set ha, if_pos (by simpa using h1), if_neg (by simp; omega)]
 omega
section
variable (code : List TIns)
inductive R : Nat → Int → Prop
 | zero : R 0 0
 | next {i : Nat} {h : Int} (hr : R i h) (hi : i < code.length) (hf : fin (code[i]).fOp = false) : R (i + 1) (W64 (h + chg code[i]))
 | jump {i : Nat} {h : Int} (hr : R i h) (hi : i < code.length) (ht : tgt (code[i]).fOp = true) : R (code[i]).fA.toNat (W64 (h + tch (code[i]).fOp))
def AllGood : Prop := (∀ i h, R code i h → ∃ hi : i < code.length, 0 ≤ h ∧ h ≤ 500 ∧ need code[i] ≤ h) ∧ ∀ i h h', R code i h → R code i h' → h = h'
def Sol (out : List Int) : Prop := out.length = code.length ∧ ∀ i, i < code.length → (gI out i = -1 ∨ R code i (gI out i)) ∧ ∀ h, R code i h → gI out i = h
theorem Sol.uniq {a b : List Int} (ha : Sol code a) (hb : Sol code b) : a = b := by
 refine List.ext_getElem (ha.1.trans hb.1.symm) fun i h1 h2 => ?_
 have hi : i < code.length := by rw [← ha.1]; exact h1
 rw [← gI_at h1, ← gI_at h2]
 obtain ⟨a1, a2⟩ := ha.2 i hi
 obtain ⟨b1, b2⟩ := hb.2 i hi
 rcases a1 with a1 | a1
 ·rcases b1 with b1 | b1
  ·rw [a1, b1]
  ·exact a2 _ b1
 ·exact (b2 _ a1).symm
structure Part (out : List Int) : Prop where
 len : out.length = code.length
 val : ∀ i, i < code.length → gI out i = -1 ∨ (0 ≤ gI out i ∧ R code i (gI out i))
 zero : 0 < code.length → gI out 0 = 0
 le : ∀ i, i < code.length → gI out i ≤ 500
def Done (out : List Int) (i : Nat) (hi : i < code.length) : Prop :=
 need code[i] ≤ gI out i ∧ gI out i ≤ 500 ∧
 (fin (code[i]).fOp = false → i + 1 < code.length ∧ 0 ≤ gI out (i + 1) ∧ gI out (i + 1) = W64 (gI out i + chg code[i])) ∧
 (tgt (code[i]).fOp = true → (code[i]).fA.toNat < code.length ∧ 0 ≤ gI out (code[i]).fA.toNat ∧ gI out (code[i]).fA.toNat = W64 (gI out i + tch (code[i]).fOp))
def Ext (out out' : List Int) : Prop := out'.length = out.length ∧ ∀ i, 0 ≤ gI out i → gI out' i = gI out i
theorem Ext.refl (out : List Int) : Ext out out := ⟨rfl, fun _ _ => rfl⟩
theorem Ext.trans {a b c : List Int} (h1 : Ext a b) (h2 : Ext b c) : Ext a c := ⟨h2.1.trans h1.1, fun i hi => (h2.2 i (by rw [h1.2 i hi]; exact hi)).trans (h1.2 i hi)⟩
theorem Done.ext {out out' : List Int} {i : Nat} {hi : i < code.length} (h : Done code out i hi) (h0 : 0 ≤ gI out i) (he : Ext out out') : Done code out' i hi := by
 obtain ⟨h1, h2, h3, h4⟩ := h
 have e := he.2 i h0
 refine ⟨by rw [e]; exact h1, by rw [e]; exact h2, fun hf => ?_, fun ht => ?_⟩
 ·obtain ⟨a, b, c⟩ := h3 hf
  rw [e, he.2 _ b]
  exact ⟨a, b, c⟩
 ·obtain ⟨a, b, c⟩ := h4 ht
  rw [e, he.2 _ b]
  exact ⟨a, b, c⟩
theorem sol_of {out : List Int} (hp : Part code out) (hd : ∀ i (hi : i < code.length), 0 ≤ gI out i → Done code out i hi) (h0 : 0 < code.length) : AllGood code ∧ Sol code out := by
 have key : ∀ i h, R code i h → ∃ hi : i < code.length, gI out i = h ∧ 0 ≤ h := fun i h hr => by
  induction hr with
  | zero => exact ⟨h0, hp.zero h0, Int.le_refl _⟩
  | next hr hi hf ih =>
   obtain ⟨_, e, hh⟩ := ih
   obtain ⟨_, _, h3, _⟩ := hd _ hi (by rw [e]; exact hh)
   obtain ⟨a, b, c⟩ := h3 hf
   rw [e] at c
   exact ⟨a, c, by rw [← c]; exact b⟩
  | jump hr hi ht ih =>
   obtain ⟨_, e, hh⟩ := ih
   obtain ⟨_, _, _, h4⟩ := hd _ hi (by rw [e]; exact hh)
   obtain ⟨a, b, c⟩ := h4 ht
   rw [e] at c
   exact ⟨a, c, by rw [← c]; exact b⟩
 refine ⟨⟨fun i h hr => ?_, fun i h h' hr hr' => ?_⟩, hp.len, fun i hi => ⟨(hp.val i hi).imp id (·.2), fun h hr => (key i h hr).2.1⟩⟩
 ·obtain ⟨hi, e, hh⟩ := key i h hr
  obtain ⟨h1, h2, _⟩ := hd i hi (by rw [e]; exact hh)
  rw [e] at h1 h2
  exact ⟨hi, hh, h2, h1⟩
 ·rw [← (key i h hr).2.1, (key i h' hr').2.1]
def Refused (out : List Int) (a : Nat) (b : Int) : Prop := out.length ≤ a ∨ ¬(0 ≤ b ∧ b ≤ 500) ∨ (0 ≤ gI out a ∧ gI out a ≠ b)
instance (out : List Int) (a : Nat) (b : Int) : Decidable (Refused out a b) := by unfold Refused; exact inferInstance
theorem refused_bad {out : List Int} {a : Nat} {b : Int} (hp : Part code out) (hr : R code a b) (h : Refused out a b) : ¬ AllGood code := fun hg => by
 obtain ⟨hi, h1, h2, _⟩ := hg.1 a b hr
 rcases h with h | h | ⟨h, h3⟩
 ·rw [hp.len] at h; omega
 ·exact h ⟨h1, h2⟩
 ·rcases hp.val a hi with q | ⟨_, q⟩
  ·omega
  ·exact h3 (hg.2 a _ _ q hr)
theorem given {out : List Int} {a : Nat} {b : Int} (hp : Part code out) (hr : R code a b) (h : ¬ Refused out a b) : a < code.length ∧ 0 ≤ b ∧ b ≤ 500 ∧ Part code (out.set a b) ∧ Ext out (out.set a b) ∧ gI (out.set a b) a = b ∧
  (∀ i, 0 ≤ gI (out.set a b) i → 0 ≤ gI out i ∨ i = a) ∧ (gI out a < 0 → neg (out.set a b) + 1 = neg out) ∧ (¬ gI out a < 0 → out.set a b = out) := by
 have h1 : ¬ out.length ≤ a := fun x => h (.inl x)
 have h2 : 0 ≤ b ∧ b ≤ 500 := Decidable.not_not.1 (fun x => h (.inr (.inl x)))
 have h3 : 0 ≤ gI out a → gI out a = b := fun x => Decidable.not_not.1 (fun y => h (.inr (.inr ⟨x, y⟩)))
 have hlt : a < out.length := by omega
 have hac : a < code.length := by rw [← hp.len]; exact hlt
 have he : Ext out (out.set a b) := ⟨List.length_set, fun i hi => by
  rw [gI_set]
  by_cases hai : a = i ∧ a < out.length
  ·obtain ⟨rfl, _⟩ := hai
   rw [if_pos ⟨rfl, hlt⟩]
   exact (h3 hi).symm
  ·rw [if_neg hai]⟩
 refine ⟨hac, h2.1, h2.2, ⟨by rw [List.length_set]; exact hp.len, fun i hi => ?_, fun h0 => ?_, fun i hi => ?_⟩, he, by rw [gI_set, if_pos ⟨rfl, hlt⟩], fun i hi => ?_, fun hn => neg_set hlt hn h2.1, fun hn => ?_⟩
 ·rw [gI_set]
  by_cases hai : a = i ∧ a < out.length
  ·obtain ⟨rfl, _⟩ := hai
   rw [if_pos ⟨rfl, hlt⟩]
   exact .inr ⟨h2.1, hr⟩
  ·rw [if_neg hai]; exact hp.val i hi
 ·have := hp.zero h0
  rw [he.2 0 (by omega)]; exact this
 ·rw [gI_set]
  by_cases hai : a = i ∧ a < out.length
  ·rw [if_pos hai]; exact h2.2
  ·rw [if_neg hai]; exact hp.le i hi
 ·rw [gI_set] at hi
  by_cases hai : a = i ∧ a < out.length
  ·exact .inr hai.1.symm
  ·rw [if_neg hai] at hi; exact .inl hi
 ·have : gI out a = b := h3 (by omega)
  rw [← this, gI_at hlt]
  exact List.set_getElem_self hlt
end
theorem sGive {out : List Int} (a : Nat) (b : Int) : m_s_l27Give out (a : Int) b = some (if Refused out a b then (false, false, out) else (decide (gI out a < 0), true, out.set a b)) := by
 unfold m_s_l27Give
 by_cases h1 : out.length ≤ a
 ·rw [if_pos (by omega), sb, if_pos (show Refused out a b from (.inl h1))]
 ·have hlt : a < out.length := by omega
  rw [if_neg (by omega), l1In_eq, sb]
  by_cases h2 : 0 ≤ b ∧ b ≤ 500
  ·rw [if_pos (by simpa using h2), idx_gI hlt, sb]
   by_cases h3 : gI out a ≥ 0
   ·rw [if_pos h3, sb]
    by_cases h4 : gI out a = b
    ·rw [if_pos h4, sb, sb, sb, if_neg (show ¬ Refused out a b by intro h; rcases h with h | h | h; exact h1 h; exact h h2; exact h.2 h4)]; rfl
    ·rw [if_neg h4, sb, if_pos (show Refused out a b from (.inr (.inr ⟨h3, h4⟩)))]
   ·rw [if_neg h3, sb, sb, sb, if_neg (show ¬ Refused out a b by intro h; rcases h with h | h | h; exact h1 h; exact h h2; exact h3 h.1)]; rfl
  ·rw [if_neg (by simpa using h2), sb, if_pos (show Refused out a b from (.inr (.inl h2)))]
theorem iGive {out work : List Int} (a : Nat) (b : Int) (hw : work.length < 1000000000) : m_i_HeightsOf_c1 (a : Int) b out work = some (if Refused out a b then (false, out, work) else if gI out a < 0 then (true, out.set a b, work ++ [(a : Int)]) else (true, out, work)) := by
 unfold m_i_HeightsOf_c1
 by_cases h1 : out.length ≤ a
 ·rw [if_pos (by omega), sb, if_pos (show Refused out a b from (.inl h1))]
 ·have hlt : a < out.length := by omega
  rw [if_neg (by omega), range_eq, sb]
  have fin2 : ∀ hc : ¬ Refused out a b, (idx out (a : Int) >>= fun x15 =>
   (if x15 < 0 then
    idx out (a : Int) >>= fun x18 =>
    lapp 8 work ([(a : Int)] : List Int) >>= fun l20 =>
    some (true, (out.set (a : Int).toNat b), l20)
   else
    some (true, out, work))) = some (if Refused out a b then (false, out, work) else if gI out a < 0 then (true, out.set a b, work ++ [(a : Int)]) else (true, out, work)) := fun hc => by
   rw [if_neg hc, idx_gI hlt, sb]
   by_cases h5 : gI out a < 0
   ·rw [if_pos h5, sb, lapp_eq (by simp; omega), sb, if_pos h5]; rfl
   ·rw [if_neg h5, if_neg h5]
  by_cases h2 : 0 ≤ b ∧ b ≤ 500
  ·rw [if_pos (by simpa using h2)]
   rw [idx_gI hlt, sb]
   by_cases h3 : gI out a ≥ 0
   ·rw [if_pos h3, sb]
    by_cases h4 : gI out a = b
    ·rw [if_pos h4, sb, ← idx_gI hlt]
     exact fin2 (by intro h; rcases h with h | h | h; exact h1 h; exact h h2; exact h.2 h4)
    ·rw [if_neg h4, sb, if_pos (show Refused out a b from (.inr (.inr ⟨h3, h4⟩)))]
   ·rw [if_neg h3, sb, ← idx_gI hlt]
    exact fin2 (by intro h; rcases h with h | h | h; exact h1 h; exact h h2; exact h3 h.1)
  ·rw [if_neg (by simpa using h2), sb, if_pos (show Refused out a b from (.inr (.inl h2)))]
end Go.Am
set_option linter.unusedVariables false
set_option linter.unusedSimpArgs false
namespace Go.Am
open Go Go.RowKit Go.Proofs
structure Gave (code : List TIns) (out work : List Int) (a : Nat) (b : Int) (out' work' : List Int) : Prop where
 part : Part code out'
 ext : Ext out out'
 at_ : gI out' a = b
 lt : a < code.length
 lo : 0 ≤ b
 hi : b ≤ 500
 new : ∀ i, 0 ≤ gI out' i → 0 ≤ gI out i ∨ (i : Int) ∈ work'
 sub : ∀ x, x ∈ work → x ∈ work'
 mem : ∀ x, x ∈ work' → x ∈ work ∨ x = (a : Int)
 mu : 2 * neg out' + work'.length ≤ 2 * neg out + work.length
theorem iGave {code : List TIns} {out work : List Int} {a : Nat} {b : Int} (hp : Part code out) (hr : R code a b) (hw : work.length < 1000000000) :
  (m_i_HeightsOf_c1 (a : Int) b out work = some (false, out, work) ∧ ¬ AllGood code) ∨ ∃ out' work', m_i_HeightsOf_c1 (a : Int) b out work = some (true, out', work') ∧ Gave code out work a b out' work' := by
 rw [iGive a b hw]
 by_cases h : Refused out a b
 ·rw [if_pos h]; exact .inl ⟨rfl, refused_bad code hp hr h⟩
 ·obtain ⟨h1, h2, h3, h4, h5, h6, h7, h8, h9⟩ := given code hp hr h
  rw [if_neg h]
  right
  by_cases hn : gI out a < 0
  ·rw [if_pos hn]
   refine ⟨_, _, rfl, h4, h5, h6, h1, h2, h3, fun i hi => (h7 i hi).imp id (fun e => by subst e; simp), fun x hx => by simp [hx], fun x hx => by simpa using hx, ?_⟩
   have := h8 hn
   simp only [List.length_append, List.length_cons, List.length_nil]
   omega
  ·rw [if_neg hn]
   have e := h9 hn
   rw [e] at h4 h5 h6 h7
   exact ⟨_, _, rfl, h4, h5, h6, h1, h2, h3, fun i hi => .inl hi, fun x hx => hx, fun x hx => .inl hx, Nat.le_refl _⟩
structure Inv (code : List TIns) (out work : List Int) : Prop where
 part : Part code out
 ok : ∀ x, x ∈ work → ∃ i : Nat, x = (i : Int) ∧ i < code.length ∧ 0 ≤ gI out i
 done : ∀ i (hi : i < code.length), 0 ≤ gI out i → (i : Int) ∈ work ∨ Done code out i hi
def HEnds (code : List TIns) (o : (List Int) ⊕ (List Int × Bool)) : Prop :=
 (o = .inr ([], false) ∧ ¬ AllGood code) ∨ ∃ out', o = .inl out' ∧ Part code out' ∧ ∀ i (hi : i < code.length), 0 ≤ gI out' i → Done code out' i hi
theorem last_split (l : List Int) (h : 0 < l.length) : ∃ w x, l = w ++ [x] := by
 rcases List.eq_nil_or_concat l with rfl | ⟨w, x, rfl⟩
 ·simp at h
 ·exact ⟨w, x, by simp⟩
theorem iLoop (a0 : TFunc) (hn : a0.fCode.length ≤ 2000000) (hA : ∀ i (hi : i < a0.fCode.length), tgt (a0.fCode[i]).fOp = true → 0 ≤ (a0.fCode[i]).fA) :
  ∀ (M : Nat) (out work : List Int), 2 * neg out + work.length ≤ M → M ≤ 100000000 → Inv a0.fCode out work → ∃ o, m_i_HeightsOf_L4 a0 out work = some o ∧ HEnds a0.fCode o := by
 intro M
 induction M with
 | zero =>
  intro out work hm _ hv
  have : work.length = 0 := by omega
  rw [m_i_HeightsOf_L4, if_neg (by omega)]
  have hw : work = [] := List.eq_nil_of_length_eq_zero this
  subst hw
  exact ⟨_, rfl, .inr ⟨out, rfl, hv.part, fun i hi h => (hv.done i hi h).resolve_left (by simp)⟩⟩
 | succ M ih =>
  intro out work hm hM hv
  rw [m_i_HeightsOf_L4]
  by_cases h0 : 0 < work.length
  ·rw [if_pos (by omega)]
   obtain ⟨w, x, rfl⟩ := last_split work h0
   have hl : (w ++ [x]).length = w.length + 1 := by simp
   have e1 : W64 (((w ++ [x]).length : Int) - 1) = (w.length : Int) := w_nat (by omega) (by omega)
   rw [e1, idx_nat (by omega), sb]
   have e2 : (w ++ [x])[w.length]'(by omega) = x := by simp
   rw [e2]
   have e3 : lto (w ++ [x]) (w.length : Int) = some w := by
    unfold lto
    rw [if_pos ⟨by omega, by omega⟩]
    simp
   rw [e3, sb, sb]
   obtain ⟨i, rfl, hi, hg⟩ := hv.ok x (by simp)
   have hlen := hv.part.len
   rw [idx_nat hi, sb, idx_gI (by omega), sb, iNeed, sb]
   have hR : R a0.fCode i (gI out i) := by
    rcases hv.part.val i hi with h | ⟨_, h⟩
    ·omega
    ·exact h
   have hwl : w.length < 100000000 := by omega
   have last : ∀ out' work', Part a0.fCode out' → Ext out out' → (∀ j, 0 ≤ gI out' j → 0 ≤ gI out j ∨ (j : Int) ∈ work') → (∀ y, y ∈ w → y ∈ work') → (∀ y, y ∈ work' → y ∈ w ∨ ∃ j : Nat, y = (j : Int) ∧ j < a0.fCode.length ∧ 0 ≤ gI out' j) →
     2 * neg out' + work'.length ≤ 2 * neg out + w.length → Done a0.fCode out' i hi → ∃ o, m_i_HeightsOf_L4 a0 out' work' = some o ∧ HEnds a0.fCode o := by
    intro out' work' q1 q2 q3 q4 q5 q6 q7
    refine ih out' work' (by omega) (by omega) ⟨q1, fun y hy => ?_, fun j hj h => ?_⟩
    ·rcases q5 y hy with h | h
     ·obtain ⟨j, r1, r2, r3⟩ := hv.ok y (by simp [h])
      exact ⟨j, r1, r2, by rw [q2.2 j r3]; exact r3⟩
     ·exact h
    ·rcases q3 j h with h1 | h1
     ·rcases hv.done j hj h1 with h2 | h2
      ·simp only [List.mem_append, List.mem_singleton] at h2
       rcases h2 with h2 | h2
       ·exact .inl (q4 _ h2)
       ·have : j = i := by omega
        subst this
        exact .inr q7
      ·exact .inr (h2.ext _ h1 q2)
     ·exact .inl h1
   by_cases hneed : need a0.fCode[i] > gI out i
   ·rw [if_pos hneed]
    exact ⟨_, rfl, .inl ⟨rfl, fun hg => by obtain ⟨_, _, _, h⟩ := hg.1 _ _ hR; omega⟩⟩
   rw [if_neg hneed, iFin, sb]
   have h5 : gI out i ≤ 500 := hv.part.le i hi
   cases hf : fin (a0.fCode[i]).fOp
   ·rw [if_neg (by simp), iChg, sb, w_succ (by omega)]
    rcases iGave hv.part (.next hR hi hf) (by omega) (work := w) with ⟨e, hb⟩ | ⟨out1, work1, e, g1⟩
    ·rw [e, sb]
     exact ⟨_, rfl, .inl ⟨rfl, hb⟩⟩
    ·rw [e, sb]
     dsimp only
     rw [if_pos rfl, iTgt, sb]
     have d1 := g1.ext.2 i hg
     cases ht : tgt (a0.fCode[i]).fOp
     ·rw [if_neg (by simp)]
      refine last out1 work1 g1.part g1.ext g1.new g1.sub (fun y hy => (g1.mem y hy).imp id (fun e => ⟨_, e, g1.lt, by rw [g1.at_]; exact g1.lo⟩)) g1.mu ⟨by rw [d1]; omega, by rw [d1]; exact h5, fun _ => ⟨g1.lt, by rw [g1.at_]; exact g1.lo, by rw [g1.at_, d1]⟩, fun h => by rw [ht] at h; cases h⟩
     ·rw [if_pos rfl, iTch, sb]
      have ea : (a0.fCode[i]).fA = (((a0.fCode[i]).fA.toNat : Nat) : Int) := by have := hA i hi ht; omega
      rcases iGave g1.part (.jump hR hi ht) (by have := g1.mu; have := neg_le out; omega) (work := work1) with ⟨e, hb⟩ | ⟨out2, work2, e, g2⟩
      ·rw [← ea] at e
       rw [e, sb]
       exact ⟨_, rfl, .inl ⟨rfl, hb⟩⟩
      ·rw [← ea] at e
       rw [e, sb]
       dsimp only
       rw [if_pos rfl]
       have d2 := g2.ext.2 i (by rw [d1]; exact hg)
       have m1 := g1.mu
       have m2 := g2.mu
       refine last out2 work2 g2.part (g1.ext.trans g2.ext) (fun j hj => ?_) (fun y hy => g2.sub _ (g1.sub _ hy)) (fun y hy => ?_) (by omega) ⟨by rw [d2, d1]; omega, by rw [d2, d1]; exact h5, fun _ => ⟨g1.lt, ?_, ?_⟩, fun _ => ⟨g2.lt, by rw [g2.at_]; exact g2.lo, by rw [g2.at_, d2, d1]⟩⟩
       ·rcases g2.new j hj with h | h
        ·rcases g1.new j h with h | h
         ·exact .inl h
         ·exact .inr (g2.sub _ h)
        ·exact .inr h
       ·rcases g2.mem y hy with h | h
        ·rcases g1.mem y h with h | h
         ·exact .inl h
         ·refine .inr ⟨_, h, g1.lt, ?_⟩
          rw [g2.ext.2 _ (by rw [g1.at_]; exact g1.lo), g1.at_]; exact g1.lo
        ·exact .inr ⟨_, h, g2.lt, by rw [g2.at_]; exact g2.lo⟩
       ·rw [g2.ext.2 _ (by rw [g1.at_]; exact g1.lo), g1.at_]; exact g1.lo
       ·rw [g2.ext.2 _ (by rw [g1.at_]; exact g1.lo), g1.at_, d2, d1]
   ·rw [if_pos rfl, iTgt, sb]
    cases ht : tgt (a0.fCode[i]).fOp
    ·rw [if_neg (by simp)]
     exact last out w hv.part (Ext.refl _) (fun j h => .inl h) (fun y hy => hy) (fun y hy => .inl hy) (Nat.le_refl _) ⟨by omega, h5, (fun h => by rw [hf] at h; cases h), (fun h => by rw [ht] at h; cases h)⟩
    ·rw [if_pos rfl, iTch, sb]
     have ea : (a0.fCode[i]).fA = (((a0.fCode[i]).fA.toNat : Nat) : Int) := by have := hA i hi ht; omega
     rcases iGave hv.part (.jump hR hi ht) (by omega) (work := w) with ⟨e, hb⟩ | ⟨out2, work2, e, g2⟩
     ·rw [← ea] at e
      rw [e, sb]
      exact ⟨_, rfl, .inl ⟨rfl, hb⟩⟩
     ·rw [← ea] at e
      rw [e, sb]
      dsimp only
      rw [if_pos rfl]
      have d2 := g2.ext.2 i hg
      exact last out2 work2 g2.part g2.ext g2.new g2.sub (fun y hy => (g2.mem y hy).imp id (fun e => ⟨_, e, g2.lt, by rw [g2.at_]; exact g2.lo⟩)) g2.mu ⟨by rw [d2]; omega, by rw [d2]; exact h5, (fun h => by rw [hf] at h; cases h), fun _ => ⟨g2.lt, by rw [g2.at_]; exact g2.lo, by rw [g2.at_, d2]⟩⟩
  ·rw [if_neg (by omega)]
   have hw : work = [] := List.eq_nil_of_length_eq_zero (by omega)
   subst hw
   exact ⟨_, rfl, .inr ⟨out, rfl, hv.part, fun i hi h => (hv.done i hi h).resolve_left (by simp)⟩⟩
end Go.Am
set_option linter.unusedVariables false
set_option linter.unusedSimpArgs false
namespace Go.Am
open Go Go.RowKit Go.Proofs
structure SGave (code : List TIns) (out : List Int) (E : List Int → Prop) (l : List Int) (f ok : Bool) : Prop where
 bad : ok = false → l = out ∧ ¬ AllGood code
 part : Part code l
 ext : Ext out l
 edge : ok = true → E l
 fresh : f = true → neg l + 1 = neg out
 old : f = false → l = out
theorem SGave.none {code : List TIns} {out : List Int} {E : List Int → Prop} (hp : Part code out) (hE : E out) : SGave code out E out false true :=
 ⟨fun h => (by cases h), hp, Ext.refl _, fun _ => hE, (fun h => by cases h), fun _ => rfl⟩
theorem sGave {code : List TIns} {out : List Int} {a : Nat} {b : Int} (hp : Part code out) (hr : R code a b) :
  ∃ l f ok, m_s_l27Give out (a : Int) b = some (f, ok, l) ∧ SGave code out (fun l => a < code.length ∧ 0 ≤ gI l a ∧ gI l a = b) l f ok := by
 rw [sGive a b]
 by_cases h : Refused out a b
 ·rw [if_pos h]
  exact ⟨_, _, _, rfl, fun _ => ⟨rfl, refused_bad code hp hr h⟩, hp, Ext.refl _, (fun h => by cases h), (fun h => by cases h), fun _ => rfl⟩
 ·obtain ⟨h1, h2, h3, h4, h5, h6, h7, h8, h9⟩ := given code hp hr h
  rw [if_neg h]
  exact ⟨_, _, _, rfl, (fun h => by cases h), h4, h5, fun _ => ⟨h1, by rw [h6]; exact h2, h6⟩, fun hf => h8 (by simpa using hf), fun hf => h9 (by simpa using hf)⟩
theorem ex_bind {α β : Type} {x : Option α} {v : α} {K : α → Option β} {P : β → Prop} (h : x = some v) (hk : ∃ o, K v = some o ∧ P o) : ∃ o, (x >>= K) = some o ∧ P o := by
 subst h; exact hk
def SEnds (code : List TIns) (y : Nat) (out : List Int) (more : Bool) (o : (List Int × Bool) ⊕ ((List Int) ⊕ (List Int × Bool))) : Prop :=
 (o = .inr (.inr ([], false)) ∧ ¬ AllGood code) ∨ ∃ out' more', o = .inl (out', more') ∧ Part code out' ∧ neg out' ≤ neg out ∧ (more' = true → more = true ∨ neg out' < neg out) ∧
  (more' = false → more = false ∧ out' = out ∧ ∀ j (hj : j < code.length), y ≤ j → 0 ≤ gI out j → Done code out j hj)
theorem sSweep (a0 : TFunc) (hn : a0.fCode.length ≤ 2000000) (hA : ∀ i (hi : i < a0.fCode.length), tgt (a0.fCode[i]).fOp = true → 0 ≤ (a0.fCode[i]).fA) :
  ∀ (f y : Nat) (out : List Int) (more : Bool), a0.fCode.length ≤ y + f → Part a0.fCode out → ∃ o, m_s_HeightsOf_L10 a0 out more (y : Int) = some o ∧ SEnds a0.fCode y out more o := by
 intro f
 induction f with
 | zero =>
  intro y out more hy hp
  have hlen := hp.len
  rw [m_s_HeightsOf_L10, if_neg (by omega)]
  exact ⟨_, rfl, .inr ⟨out, more, rfl, hp, Nat.le_refl _, .inl, fun h => ⟨h, rfl, fun j hj h1 => absurd hj (by omega)⟩⟩⟩
 | succ f ih =>
  intro y out more hy hp
  have hlen := hp.len
  rw [m_s_HeightsOf_L10]
  by_cases hc : y < a0.fCode.length
  ·rw [if_pos (by omega), idx_nat hc, sb, idx_gI (by omega), sb]
   by_cases h0 : gI out y < 0
   ·rw [if_pos h0, w_succ (by omega)]
    obtain ⟨o, e, h⟩ := ih (y + 1) out more (by omega) hp
    refine ⟨o, e, ?_⟩
    rcases h with h | ⟨out', more', e, h1, h2, h3, h4⟩
    ·exact .inl h
    ·refine .inr ⟨out', more', e, h1, h2, h3, fun hm => ?_⟩
     obtain ⟨q1, q2, q3⟩ := h4 hm
     refine ⟨q1, q2, fun j hj h5 h6 => ?_⟩
     rcases Nat.eq_or_lt_of_le h5 with rfl | h7
     ·omega
     ·exact q3 j hj h7 h6
   ·rw [if_neg h0, sb, sNeed, sb]
    have hR : R a0.fCode y (gI out y) := by
     rcases hp.val y hc with h | ⟨_, h⟩
     ·omega
     ·exact h
    by_cases hneed : need a0.fCode[y] > gI out y
    ·rw [if_pos hneed]
     exact ⟨_, rfl, .inl ⟨rfl, fun hg => by obtain ⟨_, _, _, h⟩ := hg.1 _ _ hR; omega⟩⟩
    rw [if_neg hneed]
    have b1 : ∃ l1 f1 ok1, (m_s_IsFinal (a0.fCode[y]).fOp >>= fun v57 =>
      (if v57 = true then some (out, false, true) else
       (some (gI out y) : Option Int) >>= fun x60 =>
       m_s_InsChange a0.fCode[y] >>= fun v62 =>
       m_s_l27Give out (W64 ((y : Int) + 1)) (W64 (x60 + v62)) >>= fun (v64, v65, v66) =>
       some (v66, v64, v65)) : Option ((List Int) × Bool × Bool)) = some (l1, f1, ok1) ∧
      SGave a0.fCode out (fun l => fin (a0.fCode[y]).fOp = false → y + 1 < a0.fCode.length ∧ 0 ≤ gI l (y + 1) ∧ gI l (y + 1) = W64 (gI out y + chg a0.fCode[y])) l1 f1 ok1 := by
     rw [sFin, sb]
     cases hf : fin (a0.fCode[y]).fOp
     ·rw [if_neg (by simp), sb, sChg, sb, w_succ (by omega)]
      obtain ⟨l, f1, ok, e, g⟩ := sGave hp (.next hR hc hf)
      rw [e, sb]
      exact ⟨_, _, _, rfl, g.bad, g.part, g.ext, fun h _ => g.edge h, g.fresh, g.old⟩
     ·rw [if_pos rfl]
      exact ⟨_, _, _, rfl, .none hp (fun h => by cases h)⟩
    obtain ⟨l1, f1, ok1, e1, g1⟩ := b1
    have d1 : gI l1 y = gI out y := g1.ext.2 y (by omega)
    have b2 : ∃ l2 f2 ok2, (m_s_HasTarget (a0.fCode[y]).fOp >>= fun v76 =>
      (if v76 = true then
       idx l1 (y : Int) >>= fun x79 =>
       m_s_TargetChange (a0.fCode[y]).fOp >>= fun v81 =>
       m_s_l27Give l1 (a0.fCode[y]).fA (W64 (x79 + v81)) >>= fun (v83, v84, v85) =>
       some (v85, v83, v84)
      else some (l1, false, true)) : Option ((List Int) × Bool × Bool)) = some (l2, f2, ok2) ∧
      SGave a0.fCode l1 (fun l => tgt (a0.fCode[y]).fOp = true → (a0.fCode[y]).fA.toNat < a0.fCode.length ∧ 0 ≤ gI l (a0.fCode[y]).fA.toNat ∧ gI l (a0.fCode[y]).fA.toNat = W64 (gI out y + tch (a0.fCode[y]).fOp)) l2 f2 ok2 := by
     rw [sTgt, sb]
     cases ht : tgt (a0.fCode[y]).fOp
     ·rw [if_neg (by simp)]
      exact ⟨_, _, _, rfl, .none g1.part (fun h => by cases h)⟩
     ·have ea : (a0.fCode[y]).fA = (((a0.fCode[y]).fA.toNat : Nat) : Int) := by have := hA y hc ht; omega
      have hl1 := g1.part.len
      rw [if_pos rfl, idx_gI (by omega), sb, sTch, sb, d1]
      obtain ⟨l, f2, ok, e, g⟩ := sGave g1.part (.jump hR hc ht)
      rw [← ea] at e
      rw [e, sb]
      exact ⟨_, _, _, rfl, g.bad, g.part, g.ext, fun h _ => g.edge h, g.fresh, g.old⟩
    obtain ⟨l2, f2, ok2, e2, g2⟩ := b2
    refine ex_bind e1 ?_
    refine ex_bind e2 ?_
    dsimp only
    cases hok1 : ok1
    ·rw [if_neg (by simp)]
     exact ⟨_, rfl, .inl ⟨rfl, (g1.bad hok1).2⟩⟩
    rw [if_pos rfl]
    cases hok2 : ok2
    ·rw [if_neg (by simp)]
     exact ⟨_, rfl, .inl ⟨rfl, (g2.bad hok2).2⟩⟩
    rw [if_pos rfl, w_succ (by omega)]
    have n1 : neg l1 ≤ neg out := by
     cases hf1 : f1
     ·rw [g1.old hf1]; exact Nat.le_refl _
     ·have := g1.fresh hf1; omega
    have n2 : neg l2 ≤ neg l1 := by
     cases hf2 : f2
     ·rw [g2.old hf2]; exact Nat.le_refl _
     ·have := g2.fresh hf2; omega
    have fin2 : ∀ m2 : Bool, m2 = (if more = true then true else if f1 = true then true else f2) → ∃ o, m_s_HeightsOf_L10 a0 l2 m2 ((y + 1 : Nat) : Int) = some o ∧ SEnds a0.fCode y out more o := by
     intro m2 hm2
     obtain ⟨o, e, h⟩ := ih (y + 1) l2 m2 (by omega) g2.part
     refine ⟨o, e, ?_⟩
     rcases h with h | ⟨out', more', e, h1, h2, h3, h4⟩
     ·exact .inl h
     ·refine .inr ⟨out', more', e, h1, by omega, fun hm => ?_, fun hm => ?_⟩
      ·rcases h3 hm with h5 | h5
       ·rw [h5] at hm2
        cases hmo : more
        ·right
         rw [hmo, if_neg (by simp)] at hm2
         cases hf1 : f1
         ·rw [hf1, if_neg (by simp)] at hm2
          have := g2.fresh hm2.symm
          omega
         ·have := g1.fresh hf1
          omega
        ·exact .inl rfl
       ·exact .inr (by omega)
      ·obtain ⟨q1, q2, q3⟩ := h4 hm
       rw [q1] at hm2
       cases hmo : more
       case true => rw [hmo, if_pos rfl] at hm2; cases hm2
       rw [hmo, if_neg (by simp)] at hm2
       cases hf1 : f1
       case true => rw [hf1, if_pos rfl] at hm2; cases hm2
       rw [hf1, if_neg (by simp)] at hm2
       have r2 := g2.old hm2.symm
       have r1 := g1.old hf1
       have E1 := g1.edge hok1
       have E2 := g2.edge hok2
       rw [r2] at E2 q2 q3
       rw [r1] at E1 E2 q2 q3
       refine ⟨rfl, q2, fun j hj h5 h6 => ?_⟩
       rcases Nat.eq_or_lt_of_le h5 with rfl | h7
       ·exact ⟨by omega, hp.le _ hj, E1, E2⟩
       ·exact q3 j hj h7 h6
    cases hmo : more
    ·rw [if_neg (by simp)]
     cases hf1 : f1
     ·rw [if_neg (by simp)]
      rw [← hmo]
      exact fin2 f2 (by rw [hmo, if_neg (by simp), hf1, if_neg (by simp)])
     ·rw [if_pos rfl]
      rw [← hmo]
      exact fin2 true (by rw [hmo, if_neg (by simp), hf1, if_pos rfl])
    ·rw [if_pos rfl]
     have k := fin2 true (by rw [hmo, if_pos rfl])
     rw [hmo] at k
     exact k
  ·rw [if_neg (by omega)]
   exact ⟨_, rfl, .inr ⟨out, more, rfl, hp, Nat.le_refl _, .inl, fun h => ⟨h, rfl, fun j hj h1 => absurd hj (by omega)⟩⟩⟩
theorem sLoop (a0 : TFunc) (hn : a0.fCode.length ≤ 2000000) (hA : ∀ i (hi : i < a0.fCode.length), tgt (a0.fCode[i]).fOp = true → 0 ≤ (a0.fCode[i]).fA) :
  ∀ (M : Nat) (out : List Int), neg out ≤ M → Part a0.fCode out → ∃ o, m_s_HeightsOf_L9 a0 out true = some o ∧ HEnds a0.fCode o := by
 intro M
 induction M with
 | zero =>
  intro out hm hp
  rw [m_s_HeightsOf_L9, if_pos rfl]
  obtain ⟨o, e, h⟩ := sSweep a0 hn hA a0.fCode.length 0 out false (by omega) hp
  rw [show ((0 : Nat) : Int) = 0 from rfl] at e
  rw [e, sb]
  rcases h with ⟨rfl, h⟩ | ⟨out', more', rfl, h1, h2, h3, h4⟩
  ·exact ⟨_, rfl, .inl ⟨rfl, h⟩⟩
  ·dsimp only
   cases hm' : more'
   ·obtain ⟨_, q2, q3⟩ := h4 hm'
    rw [m_s_HeightsOf_L9, if_neg (by simp)]
    subst q2
    exact ⟨_, rfl, .inr ⟨_, rfl, h1, fun i hi h => q3 i hi (Nat.zero_le _) h⟩⟩
   ·rcases h3 hm' with h | h
    ·cases h
    ·omega
 | succ M ih =>
  intro out hm hp
  rw [m_s_HeightsOf_L9, if_pos rfl]
  obtain ⟨o, e, h⟩ := sSweep a0 hn hA a0.fCode.length 0 out false (by omega) hp
  rw [show ((0 : Nat) : Int) = 0 from rfl] at e
  rw [e, sb]
  rcases h with ⟨rfl, h⟩ | ⟨out', more', rfl, h1, h2, h3, h4⟩
  ·exact ⟨_, rfl, .inl ⟨rfl, h⟩⟩
  ·dsimp only
   cases hm' : more'
   ·obtain ⟨_, q2, q3⟩ := h4 hm'
    rw [m_s_HeightsOf_L9, if_neg (by simp)]
    subst q2
    exact ⟨_, rfl, .inr ⟨_, rfl, h1, fun i hi h => q3 i hi (Nat.zero_le _) h⟩⟩
   ·rcases h3 hm' with h | h
    ·cases h
    ·exact ih out' (by omega) h1
end Go.Am
set_option linter.unusedVariables false
set_option linter.unusedSimpArgs false
namespace Go.Am
open Go Go.RowKit Go.Proofs
def insB (x : TIns) (a b : Int) : Bool := (m_i_IsIns x a b).getD false
theorem iIns (x : TIns) (a b : Int) : m_i_IsIns x a b = some (insB x a b) := by obtain ⟨v, h, _⟩ := isIns_eq x a b; rw [insB, h]; rfl
theorem sIns (x : TIns) (a b : Int) : m_s_IsIns x a b = some (insB x a b) := by obtain ⟨v, h, h2⟩ := isIns_eq x a b; rw [insB, h, h2]; rfl
theorem tgt_cases {n : Int} (h : tgt n = true) : n = 27 ∨ n = 28 ∨ n = 29 ∨ n = 44 ∨ n = 45 ∨ n = 49 ∨ n = 52 := by
 unfold tgt m_i_HasTarget at h
 by_cases h1 : n = 27
 ·exact .inl h1
 by_cases h2 : n = 28
 ·exact .inr (.inl h2)
 by_cases h3 : n = 29
 ·exact .inr (.inr (.inl h3))
 by_cases h4 : n = 44
 ·exact .inr (.inr (.inr (.inl h4)))
 by_cases h5 : n = 45
 ·exact .inr (.inr (.inr (.inr (.inl h5))))
 by_cases h6 : n = 49
 ·exact .inr (.inr (.inr (.inr (.inr (.inl h6)))))
 by_cases h7 : n = 52
 ·exact .inr (.inr (.inr (.inr (.inr (.inr h7)))))
 rw [if_neg h1, if_neg h2, if_neg h3, if_neg h4, if_neg h5, if_neg h6, if_neg h7] at h
 cases h
theorem ins_tgt {x : TIns} {a b : Int} (h : insB x a b = true) (ht : tgt x.fOp = true) : 0 ≤ x.fA ∧ x.fA < b := by
 have h1 : m_i_IsIns x a b = some true := by rw [iIns, h]
 unfold m_i_IsIns at h1
 obtain ⟨v1, _, h1⟩ := bind_some h1
 by_cases hv : v1 = true
 ·rw [if_pos hv] at h1
  obtain ⟨v4, h4, h1⟩ := bind_some h1
  by_cases hv4 : v4 = true
  ·subst hv4
   obtain ⟨n, A, B, S, T⟩ := x
   have ht : tgt n = true := ht
   show 0 ≤ A ∧ A < b
   rcases tgt_cases ht with rfl | rfl | rfl | rfl | rfl | rfl | rfl <;>
    ·simp [m_i_operandA, m_i_slotOp, m_i_HasTarget, sb] at h4
     by_cases hA : 0 ≤ A
     ·rw [if_pos hA] at h4
      exact ⟨hA, by simpa using h4⟩
     ·rw [if_neg hA] at h4; cases h4
  ·rw [if_neg hv4] at h1; cases h1
 ·rw [if_neg hv] at h1; cases h1
theorem gI_rep {n i : Nat} (h : i < n) : gI (List.replicate n (-1)) i = -1 := by
 rw [gI_at (by simpa using h)]; simp
theorem iFill (a0 : TFunc) (hn : a0.fCode.length ≤ 2000000) : ∀ (f k : Nat) (l : List Int), a0.fCode.length ≤ k + f → k ≤ a0.fCode.length → l.length = a0.fCode.length → (∀ j, j < k → gI l j = -1) →
  m_i_HeightsOf_L2 a0 l (k : Int) = some (if (a0.fCode.drop k).all (fun x => insB x (a0.fSlots.length : Int) (a0.fCode.length : Int)) then .inl (List.replicate a0.fCode.length (-1)) else .inr ([], false))
 | f, k, l, hf, hk, hl, hj => by
  rw [m_i_HeightsOf_L2]
  by_cases hc : k < a0.fCode.length
  ·rw [if_pos (by omega), idx_nat hc, sb, iIns, sb, List.drop_eq_getElem_cons hc, List.all_cons]
   obtain ⟨g, rfl⟩ : ∃ g, f = g + 1 := ⟨f - 1, by omega⟩
   cases hb : insB a0.fCode[k] (a0.fSlots.length : Int) (a0.fCode.length : Int)
   ·rw [if_neg (by simp), Bool.false_and, if_neg (by simp)]
   ·rw [if_pos rfl, idx_gI (by omega), sb, w_succ (by omega), Bool.true_and]
    exact iFill a0 hn g (k + 1) _ (by omega) (by omega) (by rw [List.length_set]; exact hl) (fun j h => by
     rw [gI_set]
     by_cases he : (k : Int).toNat = j ∧ (k : Int).toNat < l.length
     ·rw [if_pos he]
     ·rw [if_neg he]
      exact hj j (by simp at he; omega))
  ·rw [if_neg (by omega), List.drop_eq_nil_of_le (by omega)]
   have : l = List.replicate a0.fCode.length (-1) := List.ext_getElem (by simp [hl]) fun i h1 h2 => by
    rw [← gI_at h1, hj i (by omega)]; simp
   rw [this]; rfl
theorem sFill (a0 : TFunc) (hn : a0.fCode.length ≤ 2000000) : ∀ (f k : Nat), a0.fCode.length ≤ k + f → k ≤ a0.fCode.length →
  m_s_HeightsOf_L2 a0 (List.replicate k (-1)) (k : Int) = some (if (a0.fCode.drop k).all (fun x => insB x (a0.fSlots.length : Int) (a0.fCode.length : Int)) then .inl (List.replicate a0.fCode.length (-1)) else .inr ([], false))
 | f, k, hf, hk => by
  rw [m_s_HeightsOf_L2]
  by_cases hc : k < a0.fCode.length
  ·rw [if_pos (by omega), idx_nat hc, sb, sIns, sb, List.drop_eq_getElem_cons hc, List.all_cons]
   obtain ⟨g, rfl⟩ : ∃ g, f = g + 1 := ⟨f - 1, by omega⟩
   cases hb : insB a0.fCode[k] (a0.fSlots.length : Int) (a0.fCode.length : Int)
   ·rw [if_neg (by simp), Bool.false_and, if_neg (by simp)]
   ·rw [if_pos rfl, lapp_eq (by simp; omega), sb, w_succ (by omega), Bool.true_and]
    have e : List.replicate k (-1 : Int) ++ [-1] = List.replicate (k + 1) (-1) := by rw [List.replicate_succ']
    rw [e]
    exact sFill a0 hn g (k + 1) (by omega) (by omega)
  ·have : k = a0.fCode.length := by omega
   rw [if_neg (by omega), List.drop_eq_nil_of_le (by omega), this]; rfl
theorem start_part (code : List TIns) (h0 : 0 < code.length) : Part code ((List.replicate code.length (-1)).set 0 0) := by
 have g : ∀ i, i < code.length → gI ((List.replicate code.length (-1)).set 0 0) i = if i = 0 then 0 else -1 := fun i hi => by
  rw [gI_set]
  by_cases h : i = 0
  ·subst h; rw [if_pos ⟨rfl, by simpa using h0⟩, if_pos rfl]
  ·rw [if_neg (fun q => h q.1.symm), if_neg h, gI_rep hi]
 refine ⟨by simp, fun i hi => ?_, fun _ => by rw [g 0 h0]; rfl, fun i hi => ?_⟩
 ·rw [g i hi]
  by_cases h : i = 0
  ·subst h; rw [if_pos rfl]; exact .inr ⟨Int.le_refl _, .zero⟩
  ·rw [if_neg h]; exact .inl rfl
 ·rw [g i hi]
  by_cases h : i = 0
  ·rw [if_pos h]; omega
  ·rw [if_neg h]; omega
theorem heights (a0 : TFunc) (hn : a0.fCode.length ≤ 2000000) : ∃ l b, m_i_HeightsOf a0 = some (l, b) ∧ m_s_HeightsOf a0 = some (l, b) ∧ (b = false → l = []) ∧
  (b = true → l.length = a0.fCode.length ∧ ∀ i (hi : i < a0.fCode.length), tgt (a0.fCode[i]).fOp = true → 0 ≤ (a0.fCode[i]).fA ∧ (a0.fCode[i]).fA < a0.fCode.length) := by
 unfold m_i_HeightsOf m_s_HeightsOf
 have es := sFill a0 hn a0.fCode.length 0 (by omega) (by omega)
 rw [show ((0 : Nat) : Int) = 0 from rfl, List.replicate_zero] at es
 rw [es]
 by_cases h0 : a0.fCode.length = 0
 ·have hd : a0.fCode = [] := List.eq_nil_of_length_eq_zero h0
  rw [if_pos (by omega)]
  refine ⟨_, _, rfl, ?_, fun _ => rfl, fun h => by cases h⟩
  rw [hd]; rfl
 ·rw [if_neg (by omega)]
  have em : (lmake 8 (a0.fCode.length : Int) (a0.fCode.length : Int) : Option (List Int)) = some (List.replicate a0.fCode.length default) := by
   unfold lmake
   rw [if_pos ⟨by omega, by omega, by omega, by omega⟩]; rfl
  have ei := iFill a0 hn a0.fCode.length 0 (List.replicate a0.fCode.length default) (by omega) (by omega) (by simp) (fun j h => absurd h (by omega))
  rw [show ((0 : Nat) : Int) = 0 from rfl] at ei
  rw [em, sb, ei, List.drop_zero]
  cases hall : a0.fCode.all (fun x => insB x (a0.fSlots.length : Int) (a0.fCode.length : Int))
  ·refine ⟨_, _, rfl, rfl, fun _ => rfl, fun h => by cases h⟩
  ·have hA : ∀ i (hi : i < a0.fCode.length), tgt (a0.fCode[i]).fOp = true → 0 ≤ (a0.fCode[i]).fA ∧ (a0.fCode[i]).fA < a0.fCode.length := fun i hi ht =>
    ins_tgt (List.all_eq_true.1 hall _ (List.getElem_mem hi)) ht
   have hp := start_part a0.fCode (by omega)
   rw [if_pos rfl, sb, sb]
   dsimp only
   have hz : idx (List.replicate a0.fCode.length (-1)) 0 = some (-1) := by
    have := idx_nat (l := List.replicate a0.fCode.length (-1 : Int)) (i := 0) (by simp; omega)
    rw [show ((0 : Nat) : Int) = 0 from rfl] at this
    rw [this]; simp
   rw [hz, sb, sb, if_neg (by rw [List.length_replicate]; omega)]
   show ∃ l b, (m_i_HeightsOf_L4 a0 ((List.replicate a0.fCode.length (-1)).set 0 0) [0] >>= _) = _ ∧ _
   obtain ⟨o, e1, h1⟩ := iLoop a0 hn (fun i hi ht => (hA i hi ht).1) 10000000 ((List.replicate a0.fCode.length (-1)).set 0 0) [0] (by have := neg_le ((List.replicate a0.fCode.length (-1)).set 0 0); simp at this ⊢; omega) (by omega)
    ⟨hp, fun x hx => ⟨0, by simpa using hx, by omega, by rw [hp.zero (by omega)]; exact Int.le_refl _⟩, fun i hi h => .inl (by
     rcases Nat.eq_zero_or_pos i with rfl | hpos
     ·simp
     ·exfalso
      rw [gI_set, if_neg (fun q => by omega), gI_rep hi] at h
      omega)⟩
   obtain ⟨o', e2, h2⟩ := sLoop a0 hn (fun i hi ht => (hA i hi ht).1) _ ((List.replicate a0.fCode.length (-1)).set 0 0) (Nat.le_refl _) hp
   have e2' : m_s_HeightsOf_L9 a0 ((List.replicate a0.fCode.length (-1)).set (0 : Int).toNat 0) true = some o' := e2
   rw [e1, sb, e2', sb]
   rcases h1 with ⟨rfl, h1⟩ | ⟨out, rfl, p1, d1⟩
   ·rcases h2 with ⟨rfl, h2⟩ | ⟨out', rfl, p2, d2⟩
    ·exact ⟨_, _, rfl, rfl, fun _ => rfl, fun h => by cases h⟩
    ·exact absurd (sol_of a0.fCode p2 d2 (by omega)).1 h1
   ·rcases h2 with ⟨rfl, h2⟩ | ⟨out', rfl, p2, d2⟩
    ·exact absurd (sol_of a0.fCode p1 d1 (by omega)).1 h2
    ·have := Sol.uniq a0.fCode (sol_of a0.fCode p1 d1 (by omega)).2 (sol_of a0.fCode p2 d2 (by omega)).2
     subst this
     exact ⟨_, _, rfl, rfl, (fun h => by cases h), fun _ => ⟨p1.len, hA⟩⟩
end Go.Am
set_option linter.unusedVariables false
set_option linter.unusedSimpArgs false
namespace Go.Am
open Go Go.RowKit Go.Proofs
def allN (c : Nat → Bool) (k n : Nat) : Bool := (List.range' k (n - k)).all c
theorem allN_iff {c : Nat → Bool} {k n : Nat} : allN c k n = true ↔ ∀ i, k ≤ i → i < n → c i = true := by
 unfold allN
 rw [List.all_eq_true]
 constructor
 ·intro h i h1 h2
  exact h i (List.mem_range'_1.2 ⟨h1, by omega⟩)
 ·intro h i hi
  have := List.mem_range'_1.1 hi
  exact h i this.1 (by omega)
theorem allN_end {c : Nat → Bool} {n : Nat} : allN c n n = true := by unfold allN; simp
theorem allN_step {c : Nat → Bool} {k n : Nat} (h : k < n) : allN c k n = (c k && allN c (k + 1) n) := by
 unfold allN
 rw [show n - k = (n - (k + 1)) + 1 by omega, List.range'_succ, List.all_cons]
theorem loop_all {σ : Type} {L : σ → Int → Option (Unit ⊕ Bool)} (c : Nat → Bool) (n : Nat) (I : σ → Nat → Prop)
  (hs : ∀ s k, k < n → I s k → (c k = true → ∃ s', I s' (k + 1) ∧ L s (k : Int) = L s' ((k + 1 : Nat) : Int)) ∧ (c k = false → L s (k : Int) = some (.inr false)))
  (he : ∀ s, I s n → L s (n : Int) = some (.inl ())) : ∀ (f k : Nat) (s : σ), n ≤ k + f → k ≤ n → I s k → L s (k : Int) = some (if allN c k n = true then .inl () else .inr false)
 | f, k, s, hf, hk, hi => by
  by_cases hc : k < n
  ·obtain ⟨g, rfl⟩ : ∃ g, f = g + 1 := ⟨f - 1, by omega⟩
   obtain ⟨h1, h2⟩ := hs s k hc hi
   rw [allN_step hc]
   cases hck : c k
   ·rw [h2 hck, Bool.false_and, if_neg (by simp)]
   ·obtain ⟨s', q1, q2⟩ := h1 hck
    rw [q2, Bool.true_and]
    exact loop_all c n I hs he g (k + 1) s' (by omega) (by omega) q1
  ·have : k = n := by omega
   subst this
   rw [he s hi, if_pos allN_end]
theorem loop_all0 {L : Int → Option (Unit ⊕ Bool)} (c : Nat → Bool) (n : Nat)
  (hs : ∀ k, k < n → (c k = true → L (k : Int) = L ((k + 1 : Nat) : Int)) ∧ (c k = false → L (k : Int) = some (.inr false)))
  (he : L (n : Int) = some (.inl ())) : L 0 = some (if allN c 0 n = true then .inl () else .inr false) :=
 loop_all (σ := Unit) (L := fun _ => L) c n (fun _ _ => True) (fun s k hk _ => ⟨fun h => ⟨(), trivial, (hs k hk).1 h⟩, (hs k hk).2⟩) (fun _ _ => he) n 0 () (by omega) (Nat.zero_le _) trivial
theorem mgd_mput {κ β : Type} [DecidableEq κ] (z v : β) (k k' : κ) : ∀ l : List (κ × β), mgd (mput l k v) k' z = if k' = k then v else mgd l k' z
 | [] => by
  unfold mgd mput mfind mfind
  by_cases h : k' = k
  ·subst h; simp
  ·simp [h, mfind]
 | (a, b) :: r => by
  have ih := mgd_mput z v k k' r
  unfold mgd at ih ⊢
  unfold mput
  by_cases h : k = a
  ·subst h
   rw [if_pos rfl]
   by_cases h2 : k' = k
   ·subst h2; simp [mfind]
   ·simp [mfind, h2]
  ·rw [if_neg h]
   by_cases h2 : k' = a
   ·subst h2
    rw [if_neg (fun e => h e.symm)]
    simp [mfind]
   ·simp only [mfind, if_neg h2]
    exact ih
def gS (l : List Str) (i : Nat) : Str := l.getD i []
theorem idx_gS {l : List Str} {i : Nat} (h : i < l.length) : idx l (i : Int) = some (gS l i) := by
 rw [idx_nat h, gS, List.getD_eq_getElem?_getD, List.getElem?_eq_getElem h]; rfl
def gP (l : List TParam) (i : Nat) : TParam := l.getD i default
theorem idx_gP {l : List TParam} {i : Nat} (h : i < l.length) : idx l (i : Int) = some (gP l i) := by
 rw [idx_nat h, gP, List.getD_eq_getElem?_getD, List.getElem?_eq_getElem h]; rfl
def gC (l : List TIns) (i : Nat) : TIns := l.getD i default
theorem idx_gC {l : List TIns} {i : Nat} (h : i < l.length) : idx l (i : Int) = some (gC l i) := by
 rw [idx_nat h, gC, List.getD_eq_getElem?_getD, List.getElem?_eq_getElem h]; rfl
theorem gC_at {l : List TIns} {i : Nat} (h : i < l.length) : gC l i = l[i] := by
 rw [gC, List.getD_eq_getElem?_getD, List.getElem?_eq_getElem h]; rfl
def good (s : Str) : Bool := (m_i_goodName s).getD false
theorem iGood (s : Str) : m_i_goodName s = some (good s) := by obtain ⟨v, h, _⟩ := good_eq s; rw [good, h]; rfl
theorem sGood (s : Str) : m_s_l15Name s = some (good s) := by obtain ⟨v, h, h2⟩ := good_eq s; rw [good, h, h2]; rfl
def this4 : Str := [116, 104, 105, 115]
def seenB (l : List Str) (k : Nat) : Bool := (List.range k).any fun j => decide (gS l j = gS l k)
theorem seenB_iff {l : List Str} {k : Nat} : seenB l k = true ↔ ∃ j, j < k ∧ gS l j = gS l k := by
 unfold seenB
 rw [List.any_eq_true]
 constructor
 ·rintro ⟨j, h1, h2⟩; exact ⟨j, by simpa using h1, by simpa using h2⟩
 ·rintro ⟨j, h1, h2⟩; exact ⟨j, by simpa using h1, by simpa using h2⟩
def slotC (l : List Str) (k : Nat) : Bool := !seenB l k && good (gS l k) && !decide (gS l k = this4)
theorem iSlots (a0 : TFunc) (hn : a0.fSlots.length ≤ 2000000) : m_i_IsFunc_L2 a0 [] 0 = some (if allN (slotC a0.fSlots) 0 a0.fSlots.length = true then .inl () else .inr false) := by
 refine loop_all (L := fun l y => m_i_IsFunc_L2 a0 l y) (slotC a0.fSlots) a0.fSlots.length (fun l k => ∀ x, mgd l x false = true ↔ ∃ j, j < k ∧ gS a0.fSlots j = x) (fun l k hk hi => ?_) (fun l hi => ?_) a0.fSlots.length 0 [] (by omega) (Nat.zero_le _) (fun x => ⟨fun h => by simp [mgd, mfind] at h, fun ⟨j, h, _⟩ => absurd h (Nat.not_lt_zero _)⟩)
 ·have e : mgd l (gS a0.fSlots k) false = seenB a0.fSlots k := by
   rw [Bool.eq_iff_iff, hi, seenB_iff]
  have : m_i_IsFunc_L2 a0 l (k : Int) = if seenB a0.fSlots k = true then some (.inr false) else if good (gS a0.fSlots k) = true then (if gS a0.fSlots k = this4 then some (.inr false) else m_i_IsFunc_L2 a0 (mput l (gS a0.fSlots k) true) ((k + 1 : Nat) : Int)) else some (.inr false) := by
   rw [m_i_IsFunc_L2, if_pos (by omega), idx_gS hk, sb, e, iGood, sb, w_succ (by omega)]; rfl
  simp only [this]
  unfold slotC
  refine ⟨fun h => ?_, fun h => ?_⟩
  ·simp only [Bool.and_eq_true, Bool.not_eq_true', decide_eq_false_iff_not] at h
   obtain ⟨⟨h1, h2⟩, h3⟩ := h
   refine ⟨mput l (gS a0.fSlots k) true, fun x => ?_, by rw [if_neg (by rw [h1]; simp), if_pos h2, if_neg h3]⟩
   rw [mgd_mput]
   by_cases hx : x = gS a0.fSlots k
   ·rw [if_pos hx]; exact ⟨fun _ => ⟨k, by omega, hx.symm⟩, fun _ => rfl⟩
   ·rw [if_neg hx, hi]
    constructor
    ·rintro ⟨j, q1, q2⟩; exact ⟨j, by omega, q2⟩
    ·rintro ⟨j, q1, q2⟩
     rcases Nat.lt_succ_iff_lt_or_eq.1 q1 with q | rfl
     ·exact ⟨j, q, q2⟩
     ·exact absurd q2.symm hx
  ·by_cases h1 : seenB a0.fSlots k = true
   ·rw [if_pos h1]
   ·rw [if_neg h1]
    by_cases h2 : good (gS a0.fSlots k) = true
    ·rw [if_pos h2]
     by_cases h3 : gS a0.fSlots k = this4
     ·rw [if_pos h3]
     ·simp [h1, h2, h3] at h
    ·rw [if_neg h2]
 ·show m_i_IsFunc_L2 a0 l _ = _
  rw [m_i_IsFunc_L2, if_neg (by omega)]
theorem iParams (a0 : TFunc) (l : List TParam) (hn : l.length ≤ a0.fSlots.length) (hs : a0.fSlots.length ≤ 2000000) :
  m_i_IsFunc_L4 a0 l 0 = some (if allN (fun k => decide (gS a0.fSlots k = (gP l k).fName)) 0 l.length = true then .inl () else .inr false) := by
 refine loop_all0 (L := m_i_IsFunc_L4 a0 l) _ _ (fun k hk => ?_) (by rw [m_i_IsFunc_L4, if_neg (by omega)])
 rw [m_i_IsFunc_L4, if_pos (by omega), idx_gP hk, sb, idx_gS (by omega), sb, w_succ (by omega)]
 refine ⟨fun h => by rw [if_pos (by simpa using h)], fun h => by rw [if_neg (by simpa using h)]⟩
def yldC (a0 : TFunc) (k : Nat) : Bool := !decide ((gC a0.fCode k).fOp = 54) || a0.fGen
theorem iYield (a0 : TFunc) (hn : a0.fCode.length ≤ 2000000) : m_i_IsFunc_L6 a0 0 = some (if allN (yldC a0) 0 a0.fCode.length = true then .inl () else .inr false) := by
 refine loop_all0 (L := m_i_IsFunc_L6 a0) _ _ (fun k hk => ?_) (by rw [m_i_IsFunc_L6, if_neg (by omega)])
 rw [m_i_IsFunc_L6, if_pos (by omega), idx_gC hk, sb, w_succ (by omega)]
 unfold yldC
 by_cases h1 : (gC a0.fCode k).fOp = 54
 ·rw [if_pos h1]
  cases hg : a0.fGen <;> simp [h1, hg]
 ·rw [if_neg h1]; simp [h1]
theorem sYield (a0 : TFunc) (hn : a0.fCode.length ≤ 2000000) : m_s_IsFunc_L2 a0 0 = some (if allN (yldC a0) 0 a0.fCode.length = true then .inl () else .inr false) := by
 refine loop_all0 (L := m_s_IsFunc_L2 a0) _ _ (fun k hk => ?_) (by rw [m_s_IsFunc_L2, if_neg (by omega)])
 rw [m_s_IsFunc_L2, if_pos (by omega), idx_gC hk, sb, w_succ (by omega)]
 unfold yldC
 by_cases h1 : (gC a0.fCode k).fOp = 54
 ·rw [if_pos h1]
  cases hg : a0.fGen <;> simp [h1, hg]
 ·rw [if_neg h1]; simp [h1]
theorem slotOf_go (a0 : TFunc) (x : Str) (hn : a0.fSlots.length ≤ 2000000) : ∀ (f k : Nat), a0.fSlots.length ≤ k + f → k ≤ a0.fSlots.length → ∃ o, m_s_SlotOf_L2 a0 x (k : Int) = some o ∧
  ((∃ j : Nat, k ≤ j ∧ j < a0.fSlots.length ∧ gS a0.fSlots j = x ∧ (∀ m, k ≤ m → m < j → gS a0.fSlots m ≠ x) ∧ o = .inr (j : Int)) ∨ ((∀ j, k ≤ j → j < a0.fSlots.length → gS a0.fSlots j ≠ x) ∧ o = .inl ()))
 | f, k, hf, hk => by
  rw [m_s_SlotOf_L2]
  by_cases hc : k < a0.fSlots.length
  ·rw [if_pos (by omega), idx_gS hc, sb]
   by_cases hx : gS a0.fSlots k = x
   ·rw [if_pos hx]
    exact ⟨_, rfl, .inl ⟨k, Nat.le_refl _, hc, hx, fun m h1 h2 => absurd h2 (by omega), rfl⟩⟩
   ·obtain ⟨g, rfl⟩ : ∃ g, f = g + 1 := ⟨f - 1, by omega⟩
    rw [if_neg hx, w_succ (by omega)]
    obtain ⟨o, e, h⟩ := slotOf_go a0 x hn g (k + 1) (by omega) (by omega)
    refine ⟨o, e, ?_⟩
    rcases h with ⟨j, h1, h2, h3, h4, h5⟩ | ⟨h1, h2⟩
    ·refine .inl ⟨j, by omega, h2, h3, fun m q1 q2 => ?_, h5⟩
     rcases Nat.eq_or_lt_of_le q1 with rfl | q
     ·exact hx
     ·exact h4 m q q2
    ·refine .inr ⟨fun j q1 q2 => ?_, h2⟩
     rcases Nat.eq_or_lt_of_le q1 with rfl | q
     ·exact hx
     ·exact h1 j q q2
  ·rw [if_neg (by omega)]
   exact ⟨_, rfl, .inr ⟨fun j q1 q2 => absurd q2 (by omega), rfl⟩⟩
theorem slotOf_eq (a0 : TFunc) (hn : a0.fSlots.length ≤ 2000000) {k : Nat} (hk : k < a0.fSlots.length) : ∃ v, m_s_SlotOf a0 (gS a0.fSlots k) = some v ∧ (v = (k : Int) ↔ seenB a0.fSlots k = false) := by
 unfold m_s_SlotOf
 obtain ⟨o, e, h⟩ := slotOf_go a0 (gS a0.fSlots k) hn a0.fSlots.length 0 (by omega) (by omega)
 rw [show ((0 : Nat) : Int) = 0 from rfl] at e
 rw [e, sb]
 rcases h with ⟨j, h1, h2, h3, h4, rfl⟩ | ⟨h1, rfl⟩
 ·refine ⟨_, rfl, ?_⟩
  have hjk : j ≤ k := by
   rcases Nat.lt_or_ge k j with q | q
   ·exact absurd rfl (h4 k (Nat.zero_le _) q)
   ·exact q
  constructor
  ·intro h
   have : j = k := by omega
   subst this
   cases hs : seenB a0.fSlots j
   ·rfl
   ·obtain ⟨m, q1, q2⟩ := seenB_iff.1 hs
    exact absurd q2 (h4 m (Nat.zero_le _) q1)
  ·intro h
   rcases Nat.eq_or_lt_of_le hjk with q | q
   ·rw [q]
   ·rw [seenB_iff.2 ⟨j, q, h3⟩] at h; cases h
 ·exact absurd rfl (h1 k (Nat.zero_le _) hk)
end Go.Am
set_option linter.unusedVariables false
set_option linter.unusedSimpArgs false
namespace Go.Am
open Go Go.RowKit Go.Proofs
def namC (a0 : TFunc) (k : Nat) : Bool := slotC a0.fSlots k && (!decide (k < a0.fParams.length) || decide ((gP a0.fParams k).fName = gS a0.fSlots k)) &&
 (!decide (a0.fParams.length ≤ k ∧ k - a0.fParams.length < a0.fUses.length) || decide ((gP a0.fUses (k - a0.fParams.length)).fName = gS a0.fSlots k))
theorem sNames (a0 : TFunc) (hn : a0.fSlots.length ≤ 2000000) (hp : a0.fParams.length ≤ 2000000) (hu : a0.fUses.length ≤ 2000000) : m_s_l27Names_L2 a0 0 = some (if allN (namC a0) 0 a0.fSlots.length = true then .inl () else .inr false) := by
 refine loop_all0 (L := m_s_l27Names_L2 a0) _ _ (fun k hk => ?_) (by rw [m_s_l27Names_L2, if_neg (by omega)])
 obtain ⟨v, ev, hv⟩ := slotOf_eq a0 hn hk
 have key : m_s_l27Names_L2 a0 (k : Int) = if namC a0 k = true then m_s_l27Names_L2 a0 ((k + 1 : Nat) : Int) else some (.inr false) := by
  rw [m_s_l27Names_L2, if_pos (by omega), idx_gS hk, sb, sGood, sb, w_succ (by omega)]
  unfold namC slotC
  cases hg : good (gS a0.fSlots k)
  ·rw [if_neg (by simp)]; simp
  rw [if_pos rfl]
  by_cases ht : gS a0.fSlots k = this4
  ·have : gS a0.fSlots k = ([116, 104, 105, 115] : Str) := ht
   rw [if_pos this]; simp [ht]
  have ht' : ¬ gS a0.fSlots k = ([116, 104, 105, 115] : Str) := ht
  rw [if_neg ht', ev, sb, decide_eq_false ht]
  cases hs : seenB a0.fSlots k
  ·rw [if_pos (hv.2 hs)]
   by_cases h1 : k < a0.fParams.length
   ·rw [if_pos (show (k : Int) < (a0.fParams.length : Int) by omega), idx_gP h1, sb, decide_eq_true h1]
    rw [decide_eq_false (show ¬ (a0.fParams.length ≤ k ∧ k - a0.fParams.length < a0.fUses.length) by omega)]
    by_cases h2 : (gP a0.fParams k).fName = gS a0.fSlots k
    ·rw [if_pos h2, if_neg (by omega), decide_eq_true h2]; rfl
    ·rw [if_neg h2, decide_eq_false h2]; rfl
   ·rw [if_neg (show ¬ (k : Int) < (a0.fParams.length : Int) by omega), if_pos (show (k : Int) ≥ (a0.fParams.length : Int) by omega), decide_eq_false h1]
    rw [w_nat (x := (k : Int) - (a0.fParams.length : Int)) (n := k - a0.fParams.length) (by omega) (by omega)]
    by_cases h3 : k - a0.fParams.length < a0.fUses.length
    ·rw [if_pos (by omega), idx_gP h3, sb, decide_eq_true (show a0.fParams.length ≤ k ∧ k - a0.fParams.length < a0.fUses.length from ⟨by omega, h3⟩)]
     by_cases h2 : (gP a0.fUses (k - a0.fParams.length)).fName = gS a0.fSlots k
     ·rw [if_pos h2, decide_eq_true h2]; rfl
     ·rw [if_neg h2, decide_eq_false h2]; rfl
    ·rw [if_neg (by omega), decide_eq_false (show ¬ (a0.fParams.length ≤ k ∧ k - a0.fParams.length < a0.fUses.length) by omega)]; rfl
  ·rw [if_neg (fun h => by rw [hv.1 h] at hs; cases hs)]; rfl
 exact ⟨fun h => by rw [key, if_pos h], fun h => by rw [key, if_neg (by rw [h]; simp)]⟩
theorem gP_app (a b : List TParam) (k : Nat) : gP (a ++ b) k = if k < a.length then gP a k else gP b (k - a.length) := by
 unfold gP
 rw [List.getD_eq_getElem?_getD, List.getD_eq_getElem?_getD, List.getD_eq_getElem?_getD]
 by_cases h : k < a.length
 ·rw [if_pos h, List.getElem?_append_left h]
 ·rw [if_neg h, List.getElem?_append_right (by omega)]
theorem names_eq (a0 : TFunc) (hp : a0.fParams.length + a0.fUses.length ≤ a0.fSlots.length) :
  allN (namC a0) 0 a0.fSlots.length = (allN (slotC a0.fSlots) 0 a0.fSlots.length && allN (fun k => decide (gS a0.fSlots k = (gP (a0.fParams ++ a0.fUses) k).fName)) 0 (a0.fParams ++ a0.fUses).length) := by
 rw [Bool.eq_iff_iff, Bool.and_eq_true, allN_iff, allN_iff, allN_iff]
 constructor
 ·intro h
  refine ⟨fun i h1 h2 => ?_, fun i h1 h2 => ?_⟩
  ·have := h i h1 h2
   unfold namC at this
   simp only [Bool.and_eq_true] at this
   exact this.1.1
  ·rw [List.length_append] at h2
   have := h i h1 (by omega)
   unfold namC at this
   simp only [Bool.and_eq_true, Bool.or_eq_true, Bool.not_eq_true', decide_eq_false_iff_not, decide_eq_true_eq] at this
   rw [gP_app, decide_eq_true_eq]
   by_cases hc : i < a0.fParams.length
   ·rw [if_pos hc]
    exact (this.1.2.resolve_left (fun q => q hc)).symm
   ·rw [if_neg hc]
    exact (this.2.resolve_left (fun q => q ⟨by omega, by omega⟩)).symm
 ·rintro ⟨h1, h2⟩ i h3 h4
  unfold namC
  simp only [Bool.and_eq_true, Bool.or_eq_true, Bool.not_eq_true', decide_eq_false_iff_not, decide_eq_true_eq]
  refine ⟨⟨h1 i h3 h4, ?_⟩, ?_⟩
  ·by_cases hc : i < a0.fParams.length
   ·right
    have := h2 i h3 (by rw [List.length_append]; omega)
    rw [gP_app, decide_eq_true_eq, if_pos hc] at this
    exact this.symm
   ·exact .inl hc
  ·by_cases hc : a0.fParams.length ≤ i ∧ i - a0.fParams.length < a0.fUses.length
   ·right
    have := h2 i h3 (by rw [List.length_append]; omega)
    rw [gP_app, decide_eq_true_eq, if_neg (by omega)] at this
    exact this.symm
   ·exact .inl hc
theorem top_eq (a0 : TFunc) : ∃ b, m_i_isFile a0 = some b ∧ m_s_l25Top a0 = some b := by
 unfold m_i_isFile m_stringsHasPrefix m_internalstringsliteHasPrefix m_s_l25Top
 cases hs : a0.fName with
 | nil => exact ⟨false, rfl, rfl⟩
 | cons c r =>
  have e1 : sto (c :: r) (([47] : Str).length : Int) = some [c] := by
   unfold sto
   rw [if_pos ⟨by simp, by simp; omega⟩]; rfl
  have e2 : sidx (c :: r) 0 = some c := by
   have := sidx_nat (s := c :: r) (i := 0) (by simp)
   exact this
  rw [if_pos (by simp; omega), e1, sb, sb, sb, if_pos (by simp), e2, sb]
  refine ⟨_, rfl, ?_⟩
  congr 1
  rw [Bool.eq_iff_iff, beq_iff_eq, beq_iff_eq]
  constructor
  ·intro h
   have : c = 47 := by
    apply UInt8.toNat_inj.1
    show c.toNat = 47
    omega
   rw [this]
  ·intro h
   injection h with h _
   rw [h]; rfl
theorem isFunc_eq (a0 : TFunc) (hc : a0.fCode.length ≤ 2000000) (hs : a0.fSlots.length ≤ 2000000) (hp : a0.fParams.length ≤ 2000000) (hu : a0.fUses.length ≤ 2000000) (hnm : a0.fName.length ≤ 2000000) :
  ∃ b, m_i_IsFunc a0 = some b ∧ m_s_IsFunc a0 = some b ∧ (b = true → ∃ l, m_i_HeightsOf a0 = some (l, true) ∧ m_s_HeightsOf a0 = some (l, true) ∧ l.length = a0.fCode.length ∧
   (∀ i (hi : i < a0.fCode.length), tgt (a0.fCode[i]).fOp = true → 0 ≤ (a0.fCode[i]).fA ∧ (a0.fCode[i]).fA < a0.fCode.length)) := by
 unfold m_i_IsFunc m_s_IsFunc m_s_l27Names
 obtain ⟨l, b, e1, e2, hb1, hb2⟩ := heights a0 hc
 obtain ⟨tb, t1, t2⟩ := top_eq a0
 rw [range_eq, sb, l1In_eq, sb]
 by_cases h1 : (1 : Int) ≤ (a0.fName.length : Int) ∧ (a0.fName.length : Int) ≤ 100
 case neg =>
  have hd : ¬ decide ((1 : Int) ≤ (a0.fName.length : Int) ∧ (a0.fName.length : Int) ≤ 100) = true := by simpa using h1
  rw [if_neg hd, if_neg hd]
  exact ⟨_, rfl, rfl, fun h => by cases h⟩
 have hd : decide ((1 : Int) ≤ (a0.fName.length : Int) ∧ (a0.fName.length : Int) ≤ 100) = true := by simpa using h1
 rw [if_pos hd, if_pos hd]
 by_cases h2 : (a0.fSlots.length : Int) > 600
 ·rw [if_pos h2]
  refine ⟨false, rfl, ?_, fun h => by cases h⟩
  by_cases h3 : (a0.fCode.length : Int) > 8000
  ·rw [if_pos h3]; rfl
  ·rw [if_neg h3, if_pos h2]; rfl
 rw [if_neg h2, if_neg h2]
 by_cases h3 : (a0.fCode.length : Int) > 8000
 ·rw [if_pos h3, if_pos h3]
  exact ⟨false, rfl, rfl, fun h => by cases h⟩
 rw [if_neg h3, if_neg h3]
 have ew : W64 ((a0.fParams.length : Int) + (a0.fUses.length : Int)) = ((a0.fParams.length + a0.fUses.length : Nat) : Int) := w_nat (by omega) (by omega)
 rw [ew]
 by_cases h4 : ((a0.fParams.length + a0.fUses.length : Nat) : Int) > (a0.fSlots.length : Int)
 ·rw [if_pos h4, if_pos h4]
  exact ⟨false, rfl, rfl, fun h => by cases h⟩
 rw [if_neg h4, if_neg h4, iSlots a0 hs, sNames a0 hs hp hu, names_eq a0 (by omega)]
 have eC : m_CloneP a0.fParams = some a0.fParams := by
  unfold m_CloneP
  rw [lapp_eq (by simp; omega), sb, List.nil_append]
 have eA : lapp 24 a0.fParams a0.fUses = some (a0.fParams ++ a0.fUses) := lapp_eq (by omega)
 have eP : (some a0.fParams >>= fun v28 => lapp 24 v28 a0.fUses >>= fun l30 => m_i_IsFunc_L4 a0 l30 0) = some (if allN (fun k => decide (gS a0.fSlots k = (gP (a0.fParams ++ a0.fUses) k).fName)) 0 (a0.fParams ++ a0.fUses).length = true then .inl () else .inr false) := by
  rw [sb, eA, sb, iParams a0 _ (by rw [List.length_append]; omega) hs]
 rw [eC, eP, iYield a0 hc, sYield a0 hc, t1, t2, e1, e2]
 generalize allN (slotC a0.fSlots) 0 a0.fSlots.length = A
 generalize allN (fun k => decide (gS a0.fSlots k = (gP (a0.fParams ++ a0.fUses) k).fName)) 0 (a0.fParams ++ a0.fUses).length = B
 generalize allN (yldC a0) 0 a0.fCode.length = Y
 cases A
 ·exact ⟨false, rfl, rfl, fun h => by cases h⟩
 cases B
 ·exact ⟨false, rfl, rfl, fun h => by cases h⟩
 cases Y
 ·refine ⟨false, rfl, ?_, fun h => by cases h⟩
  cases tb
  ·rfl
  ·by_cases h5 : 0 < a0.fSlots.length
   ·simp [sb, h5]
   ·cases hg : a0.fGen <;> simp [sb, h5, hg]
 have fin3 : b = true → ∃ l_1, some (l, b) = some (l_1, true) ∧ some (l, b) = some (l_1, true) ∧ l_1.length = a0.fCode.length ∧
   (∀ i (hi : i < a0.fCode.length), tgt (a0.fCode[i]).fOp = true → 0 ≤ (a0.fCode[i]).fA ∧ (a0.fCode[i]).fA < a0.fCode.length) := fun h => by
  subst h
  exact ⟨l, rfl, rfl, (hb2 rfl).1, (hb2 rfl).2⟩
 cases tb
 ·exact ⟨b, rfl, rfl, fin3⟩
 ·by_cases h5 : 0 < a0.fSlots.length
  ·refine ⟨false, ?_, ?_, fun h => by cases h⟩ <;> simp [sb, h5]
  ·cases hg : a0.fGen
   ·refine ⟨b, ?_, ?_, fin3⟩ <;> simp [sb, h5, hg]
   ·refine ⟨false, ?_, ?_, fun h => by cases h⟩ <;> simp [sb, h5, hg]
end Go.Am
set_option linter.unusedVariables false
set_option linter.unusedSimpArgs false
namespace Go.Am
open Go Go.RowKit Go.Proofs
theorem ext_iff {α : Type} {l m : List α} {g : List α → Nat → α} (hg : ∀ (l : List α) i (h : i < l.length), g l i = l[i]) (hl : l.length = m.length) : (∀ i, i < l.length → g l i = g m i) ↔ l = m := by
 constructor
 ·intro h
  refine List.ext_getElem hl fun i h1 h2 => ?_
  rw [← hg l i h1, ← hg m i h2]
  exact h i h1
 ·rintro rfl i _; rfl
theorem gP_at (l : List TParam) (i : Nat) (h : i < l.length) : gP l i = l[i] := by
 rw [gP, List.getD_eq_getElem?_getD, List.getElem?_eq_getElem h]; rfl
theorem gS_at (l : List Str) (i : Nat) (h : i < l.length) : gS l i = l[i] := by
 rw [gS, List.getD_eq_getElem?_getD, List.getElem?_eq_getElem h]; rfl
theorem allN_eq {α : Type} [DecidableEq α] {l m : List α} {g : List α → Nat → α} (hg : ∀ (l : List α) i (h : i < l.length), g l i = l[i]) (hl : l.length = m.length) : allN (fun k => decide (g l k = g m k)) 0 l.length = decide (l = m) := by
 rw [Bool.eq_iff_iff, allN_iff, decide_eq_true_iff, ← ext_iff hg hl]
 constructor
 ·intro h i hi; simpa using h i (Nat.zero_le _) hi
 ·intro h i _ hi; simpa using h i hi
theorem eqP (a b : List TParam) (hn : a.length ≤ 2000000) : m_EqualP a b = some (decide (a = b)) := by
 unfold m_EqualP
 by_cases hl : a.length = b.length
 ·rw [if_pos (by omega), ← allN_eq gP_at hl]
  have : m_EqualP_L2 a b 0 = some (if allN (fun k => decide (gP a k = gP b k)) 0 a.length = true then .inl () else .inr false) := by
   refine loop_all0 (L := m_EqualP_L2 a b) _ _ (fun k hk => ?_) (by rw [m_EqualP_L2, if_neg (by omega)])
   rw [m_EqualP_L2, if_pos (by omega), idx_gP hk, sb, idx_gP (by omega), sb, w_succ (by omega)]
   exact ⟨fun h => by rw [if_pos (by simpa using h)], fun h => by rw [if_neg (by simpa using h)]⟩
  rw [this, sb]
  cases allN (fun k => decide (gP a k = gP b k)) 0 a.length <;> rfl
 ·rw [if_neg (by omega), decide_eq_false (fun h => hl (by rw [h]))]
theorem eqS (a b : List Str) (hn : a.length ≤ 2000000) : m_EqualS a b = some (decide (a = b)) := by
 unfold m_EqualS
 by_cases hl : a.length = b.length
 ·rw [if_pos (by omega), ← allN_eq gS_at hl]
  have : m_EqualS_L2 a b 0 = some (if allN (fun k => decide (gS a k = gS b k)) 0 a.length = true then .inl () else .inr false) := by
   refine loop_all0 (L := m_EqualS_L2 a b) _ _ (fun k hk => ?_) (by rw [m_EqualS_L2, if_neg (by omega)])
   rw [m_EqualS_L2, if_pos (by omega), idx_gS hk, sb, idx_gS (by omega), sb, w_succ (by omega)]
   exact ⟨fun h => by rw [if_pos (by simpa using h)], fun h => by rw [if_neg (by simpa using h)]⟩
  rw [this, sb]
  cases allN (fun k => decide (gS a k = gS b k)) 0 a.length <;> rfl
 ·rw [if_neg (by omega), decide_eq_false (fun h => hl (by rw [h]))]
structure Fits (a : TFunc) : Prop where
 code : a.fCode.length ≤ 2000000
 slots : a.fSlots.length ≤ 2000000
 params : a.fParams.length ≤ 2000000
 uses : a.fUses.length ≤ 2000000
 name : a.fName.length ≤ 2000000
theorem agree_eq (a b : TFunc) (ha : Fits a) : ∃ v, m_i_agree a b = some v ∧ m_s_l30Same a b = some v := by
 unfold m_i_agree m_s_l30Same
 by_cases h1 : a.fName = b.fName
 case neg => rw [if_neg h1, if_neg h1]; exact ⟨_, rfl, rfl⟩
 by_cases h2 : a.fGen = b.fGen
 case neg => rw [if_pos h1, if_pos h1, if_neg h2, if_neg h2]; exact ⟨_, rfl, rfl⟩
 rw [if_pos h1, if_pos h1, if_pos h2, if_pos h2, eqP _ _ ha.params, eqP _ _ ha.uses, eqS _ _ ha.slots, sb, sb, sb]
 by_cases l1 : a.fParams.length = b.fParams.length
 case neg =>
  rw [if_neg (show ¬ (a.fParams.length : Int) = (b.fParams.length : Int) by omega), decide_eq_false (show ¬ a.fParams = b.fParams from fun h => l1 (by rw [h]))]
  exact ⟨_, rfl, rfl⟩
 by_cases l2 : a.fUses.length = b.fUses.length
 case neg =>
  rw [if_pos (show (a.fParams.length : Int) = (b.fParams.length : Int) by omega), if_neg (show ¬ (a.fUses.length : Int) = (b.fUses.length : Int) by omega), decide_eq_false (show ¬ a.fUses = b.fUses from fun h => l2 (by rw [h]))]
  cases decide (a.fParams = b.fParams) <;> exact ⟨_, rfl, rfl⟩
 by_cases l3 : a.fSlots.length = b.fSlots.length
 case neg =>
  rw [if_pos (show (a.fParams.length : Int) = (b.fParams.length : Int) by omega), if_pos (show (a.fUses.length : Int) = (b.fUses.length : Int) by omega), if_neg (show ¬ (a.fSlots.length : Int) = (b.fSlots.length : Int) by omega), decide_eq_false (show ¬ a.fSlots = b.fSlots from fun h => l3 (by rw [h]))]
  cases decide (a.fParams = b.fParams) <;> cases decide (a.fUses = b.fUses) <;> exact ⟨_, rfl, rfl⟩
 rw [if_pos (show (a.fParams.length : Int) = (b.fParams.length : Int) by omega), if_pos (show (a.fUses.length : Int) = (b.fUses.length : Int) by omega), if_pos (show (a.fSlots.length : Int) = (b.fSlots.length : Int) by omega)]
 have p2 := ha.params
 have p3 := ha.uses
 have p4 := ha.slots
 have q1 : m_s_l30Same_L2 a b 0 = some (if decide (a.fParams = b.fParams) = true then .inl () else .inr false) := by
  rw [← allN_eq gP_at l1]
  refine loop_all0 (L := m_s_l30Same_L2 a b) _ _ (fun k hk => ?_) (by rw [m_s_l30Same_L2, if_neg (by omega)])
  rw [m_s_l30Same_L2, if_pos (by omega), idx_gP hk, sb, idx_gP (by omega), sb, w_succ (by omega)]
  exact ⟨fun h => by rw [if_pos (by simpa using h)], fun h => by rw [if_neg (by simpa using h)]⟩
 have q2 : m_s_l30Same_L4 a b 0 = some (if decide (a.fUses = b.fUses) = true then .inl () else .inr false) := by
  rw [← allN_eq gP_at l2]
  refine loop_all0 (L := m_s_l30Same_L4 a b) _ _ (fun k hk => ?_) (by rw [m_s_l30Same_L4, if_neg (by omega)])
  rw [m_s_l30Same_L4, if_pos (by omega), idx_gP hk, sb, idx_gP (by omega), sb, w_succ (by omega)]
  exact ⟨fun h => by rw [if_pos (by simpa using h)], fun h => by rw [if_neg (by simpa using h)]⟩
 have q3 : m_s_l30Same_L6 a b 0 = some (if decide (a.fSlots = b.fSlots) = true then .inl () else .inr false) := by
  rw [← allN_eq gS_at l3]
  refine loop_all0 (L := m_s_l30Same_L6 a b) _ _ (fun k hk => ?_) (by rw [m_s_l30Same_L6, if_neg (by omega)])
  rw [m_s_l30Same_L6, if_pos (by omega), idx_gS hk, sb, idx_gS (by omega), sb, w_succ (by omega)]
  exact ⟨fun h => by rw [if_pos (by simpa using h)], fun h => by rw [if_neg (by simpa using h)]⟩
 rw [q1, q2, q3]
 cases decide (a.fParams = b.fParams) <;> cases decide (a.fUses = b.fUses) <;> cases decide (a.fSlots = b.fSlots) <;> exact ⟨_, rfl, rfl⟩
def nxt (code : List TIns) (at_ : Nat) : Option Nat :=
 if (gC code at_).fOp = 27 then some (gC code at_).fA.toNat else if (gC code at_).fOp = 1 ∧ at_ + 1 < code.length then some (at_ + 1) else none
def wk (code : List TIns) : Nat → Nat → List Int
 | 0, _ => []
 | f + 1, a => match nxt code a with
  | none => []
  | some b => (b : Int) :: wk code f b
def Jumps (code : List TIns) : Prop := ∀ i, i < code.length → (gC code i).fOp = 27 → 0 ≤ (gC code i).fA ∧ (gC code i).fA < code.length
theorem nxt_lt {code : List TIns} (hj : Jumps code) {a b : Nat} (ha : a < code.length) (h : nxt code a = some b) : b < code.length := by
 unfold nxt at h
 by_cases h1 : (gC code a).fOp = 27
 ·rw [if_pos h1] at h
  injection h with h
  have := hj a ha h1
  omega
 ·rw [if_neg h1] at h
  by_cases h2 : (gC code a).fOp = 1 ∧ a + 1 < code.length
  ·rw [if_pos h2] at h
   injection h with h
   omega
  ·rw [if_neg h2] at h; cases h
theorem iWalk_go {code : List TIns} (hj : Jumps code) (hn : code.length ≤ 2000000) : ∀ (f y a : Nat) (l : List Int), y + f = code.length → a < code.length → l.length ≤ y + 1 →
  ∃ o, m_i_walkFrom_L2 code (a : Int) l (y : Int) = some o ∧ (o = .inl (l ++ wk code f a) ∨ o = .inr (l ++ wk code f a))
 | 0, y, a, l, hy, ha, hl => by
  rw [m_i_walkFrom_L2, if_neg (by omega)]
  exact ⟨_, rfl, .inl (by rw [wk, List.append_nil])⟩
 | f + 1, y, a, l, hy, ha, hl => by
  rw [m_i_walkFrom_L2, if_pos (by omega), idx_gC ha, sb, w_succ (by omega), wk]
  by_cases h1 : (gC code a).fOp = 27
  ·have hb := hj a ha h1
   have e : nxt code a = some (gC code a).fA.toNat := by unfold nxt; rw [if_pos h1]
   have ea : (gC code a).fA = (((gC code a).fA.toNat : Nat) : Int) := by omega
   rw [if_pos h1, sb, lapp_eq (by simp; omega), sb, e]
   dsimp only
   obtain ⟨o, e2, h⟩ := iWalk_go hj hn f (y + 1) (gC code a).fA.toNat (l ++ [(gC code a).fA]) (by omega) (by omega) (by simp; omega)
   rw [← ea] at e2
   refine ⟨o, e2, ?_⟩
   rw [List.append_assoc] at h
   rw [← ea]
   exact h
  ·rw [if_neg h1, sb]
   by_cases h2 : (gC code a).fOp = 1
   ·rw [if_pos h2, w_succ (by omega)]
    by_cases h3 : a + 1 < code.length
    ·have e : nxt code a = some (a + 1) := by unfold nxt; rw [if_neg h1, if_pos ⟨h2, h3⟩]
     rw [if_pos (by omega), lapp_eq (by simp; omega), sb, e]
     dsimp only
     obtain ⟨o, e2, h⟩ := iWalk_go hj hn f (y + 1) (a + 1) (l ++ [((a + 1 : Nat) : Int)]) (by omega) (by omega) (by simp; omega)
     refine ⟨o, e2, ?_⟩
     rw [List.append_assoc] at h
     exact h
    ·have e : nxt code a = none := by unfold nxt; rw [if_neg h1, if_neg (fun q => h3 q.2)]
     rw [if_neg (by omega), e]
     exact ⟨_, rfl, .inr (by simp)⟩
   ·have e : nxt code a = none := by unfold nxt; rw [if_neg h1, if_neg (fun q => h2 q.1)]
    rw [if_neg h2, e]
    exact ⟨_, rfl, .inr (by simp)⟩
theorem iWalk {code : List TIns} (hj : Jumps code) (hn : code.length ≤ 2000000) {a : Nat} (ha : a < code.length) : m_i_walkFrom code (a : Int) = some ((a : Int) :: wk code code.length a) := by
 unfold m_i_walkFrom
 obtain ⟨o, e, h⟩ := iWalk_go hj hn code.length 0 a [(a : Int)] (by omega) ha (by simp)
 rw [show ((0 : Nat) : Int) = 0 from rfl] at e
 rw [e, sb]
 rcases h with rfl | rfl <;> rfl
theorem sWalk_go {code : List TIns} (hj : Jumps code) (hn : code.length ≤ 2000000) (to : Int) : ∀ (f y a : Nat), y + f = code.length → a < code.length →
  ∃ r, (m_s_l31Walk_L2 code to (a : Int) (y : Int) >>= fun o2 => match o2 with
   | .inr r => some r
   | .inl y1 => some (y1, false)) = some (r, decide (to ∈ (a : Int) :: wk code f a)) ∧ (to ∉ (a : Int) :: wk code f a → some r = ((a : Int) :: wk code f a).getLast?)
 | 0, y, a, hy, ha => by
  have hy : y = code.length := by omega
  subst hy
  rw [m_s_l31Walk_L2, if_pos (Int.le_refl _), wk]
  by_cases h : (a : Int) = to
  ·rw [if_pos h, sb]
   have hm : to ∈ [(a : Int)] := by rw [h]; simp
   exact ⟨(a : Int), by rw [decide_eq_true hm], fun q => absurd hm q⟩
  ·have hm : to ∉ [(a : Int)] := fun q => h (List.mem_singleton.1 q).symm
   rw [if_neg h, if_pos rfl, w_succ (by omega), m_s_l31Walk_L2, if_neg (by omega), sb]
   exact ⟨(a : Int), by rw [decide_eq_false hm], fun _ => rfl⟩
 | f + 1, y, a, hy, ha => by
  rw [m_s_l31Walk_L2, if_pos (by omega), wk]
  by_cases h : (a : Int) = to
  ·rw [if_pos h, sb]
   have hm : ∀ r : List Int, to ∈ (a : Int) :: r := fun r => by rw [h]; simp
   exact ⟨(a : Int), by rw [decide_eq_true (hm _)], fun q => absurd (hm _) q⟩
  have h' : ¬ to = (a : Int) := fun q => h q.symm
  rw [if_neg h, if_neg (by omega), idx_gC ha, sb, w_succ (by omega), w_succ (by omega)]
  have more : ∀ b : Nat, nxt code a = some b → ∃ r, (m_s_l31Walk_L2 code to (b : Int) ((y + 1 : Nat) : Int) >>= fun o2 => match o2 with
   | .inr r => some r
   | .inl y1 => some (y1, false)) = some (r, decide (to ∈ (a : Int) :: (b : Int) :: wk code f b)) ∧ (to ∉ (a : Int) :: (b : Int) :: wk code f b → some r = ((a : Int) :: (b : Int) :: wk code f b).getLast?) := fun b hb => by
   obtain ⟨r, e, h2⟩ := sWalk_go hj hn to f (y + 1) b (by omega) (nxt_lt hj ha hb)
   refine ⟨r, ?_, fun q => ?_⟩
   ·rw [e]
    congr 2
    rw [decide_eq_decide, List.mem_cons (a := to) (b := (a : Int))]
    exact ⟨.inr, fun q => q.resolve_left h'⟩
   ·rw [List.getLast?_cons_cons]
    exact h2 (fun z => q (List.mem_cons_of_mem _ z))
  have stop : nxt code a = none → ∃ r, ((some (.inr ((a : Int), false)) : Option (Int ⊕ (Int × Bool))) >>= fun o2 => match o2 with
   | .inr r => some r
   | .inl y1 => some (y1, false)) = some (r, decide (to ∈ [(a : Int)])) ∧ (to ∉ [(a : Int)] → some r = [(a : Int)].getLast?) := fun _ =>
   ⟨(a : Int), by simp [h', sb], fun _ => rfl⟩
  by_cases h1 : (gC code a).fOp = 27
  ·have hb := hj a ha h1
   have e : nxt code a = some (gC code a).fA.toNat := by unfold nxt; rw [if_pos h1]
   obtain ⟨b, ea⟩ : ∃ b : Nat, (gC code a).fA = (b : Int) := ⟨(gC code a).fA.toNat, by omega⟩
   rw [ea, Int.toNat_natCast] at e
   rw [if_pos h1, sb, ea, e]
   exact more _ e
  ·rw [if_neg h1, sb]
   by_cases h2 : (gC code a).fOp = 1
   ·rw [if_pos h2]
    by_cases h3 : a + 1 < code.length
    ·have e : nxt code a = some (a + 1) := by unfold nxt; rw [if_neg h1, if_pos ⟨h2, h3⟩]
     rw [if_pos (by omega), e]
     exact more _ e
    ·have e : nxt code a = none := by unfold nxt; rw [if_neg h1, if_neg (fun q => h3 q.2)]
     rw [if_neg (by omega), e]
     exact stop e
   ·have e : nxt code a = none := by unfold nxt; rw [if_neg h1, if_neg (fun q => h2 q.1)]
    rw [if_neg h2, e]
    exact stop e
theorem sWalk {code : List TIns} (hj : Jumps code) (hn : code.length ≤ 2000000) (to : Int) {a : Nat} (ha : a < code.length) :
  ∃ r, m_s_l31Walk code (a : Int) to = some (r, decide (to ∈ (a : Int) :: wk code code.length a)) ∧ (to ∉ (a : Int) :: wk code code.length a → some r = ((a : Int) :: wk code code.length a).getLast?) := by
 unfold m_s_l31Walk
 exact sWalk_go hj hn to code.length 0 a (by omega) ha
end Go.Am
set_option linter.unusedVariables false
set_option linter.unusedSimpArgs false
namespace Go.Am
open Go Go.RowKit Go.Proofs
theorem jumps_of {code : List TIns} (hA : ∀ i (hi : i < code.length), tgt (code[i]).fOp = true → 0 ≤ (code[i]).fA ∧ (code[i]).fA < code.length) : Jumps code := fun i hi h => by
 rw [gC_at hi] at h ⊢
 exact hA i hi (by rw [h]; rfl)
theorem isFunc_fits (a : TFunc) (ha : Fits a) : ∃ b, m_i_IsFunc a = some b ∧ m_s_IsFunc a = some b ∧ (b = true → ∃ l, m_i_HeightsOf a = some (l, true) ∧ m_s_HeightsOf a = some (l, true) ∧ l.length = a.fCode.length ∧
   (∀ i (hi : i < a.fCode.length), tgt (a.fCode[i]).fOp = true → 0 ≤ (a.fCode[i]).fA ∧ (a.fCode[i]).fA < a.fCode.length)) :=
 isFunc_eq a ha.code ha.slots ha.params ha.uses ha.name
theorem three {A B C : Option Bool} {X Y : Option Bool} {v1 v2 v3 : Bool} {A' B' C' : Option Bool} (a1 : A = some v1) (a2 : B = some v2) (a3 : C = some v3) (b1 : A' = some v1) (b2 : B' = some v2) (b3 : C' = some v3)
  (h : v1 = true → v2 = true → v3 = true → ∃ v, X = some v ∧ Y = some v) :
  ∃ v, (A >>= fun x => (if x = true then B >>= fun y => (if y = true then C >>= fun z => (if z = true then X else some false) else some false) else some false)) = some v ∧
   (A' >>= fun x => (if x = true then B' >>= fun y => (if y = true then C' >>= fun z => (if z = true then Y else some false) else some false) else some false)) = some v := by
 subst a1 a2 a3 b1 b2 b3
 cases v1
 ·exact ⟨_, rfl, rfl⟩
 cases v2
 ·exact ⟨_, rfl, rfl⟩
 cases v3
 ·exact ⟨_, rfl, rfl⟩
 exact h rfl rfl rfl
def cnt (K : List Int) (x : Int) : Nat := K.countP fun k => decide (k < x)
def mv (x : TIns) (K : List Int) : TIns := if tgt x.fOp = true then TIns.mk x.fOp (cnt K x.fA : Int) x.fB x.fS x.fT else x
theorem gI_cons_drop {K : List Int} {k : Nat} (h : k < K.length) : K.drop k = gI K k :: K.drop (k + 1) := by
 rw [List.drop_eq_getElem_cons h, gI_at h]
theorem moved_go (x : TIns) (K : List Int) (hK : K.length ≤ 3000000) : ∀ (f k c : Nat), K.length ≤ k + f → k ≤ K.length → c ≤ k → m_i_moved_L4 x K (c : Int) (k : Int) = some ((c + cnt (K.drop k) x.fA : Nat) : Int)
 | f, k, c, hf, hk, hc => by
  rw [m_i_moved_L4]
  by_cases h : k < K.length
  ·obtain ⟨g, rfl⟩ : ∃ g, f = g + 1 := ⟨f - 1, by omega⟩
   rw [if_pos (by omega), idx_gI h, sb, w_succ (by omega), w_succ (by omega), gI_cons_drop h]
   unfold cnt
   rw [List.countP_cons]
   by_cases hx : gI K k < x.fA
   ·rw [if_pos hx, moved_go x K hK g (k + 1) (c + 1) (by omega) (by omega) (by omega), if_pos (by simpa using hx)]
    congr 2
    unfold cnt
    omega
   ·rw [if_neg hx, moved_go x K hK g (k + 1) c (by omega) (by omega) (by omega), if_neg (by simpa using hx)]
    rfl
  ·rw [if_neg (by omega), List.drop_eq_nil_of_le (by omega)]; rfl
theorem moved_eq (x : TIns) (K : List Int) (hK : K.length ≤ 3000000) : m_i_moved x K = some (mv x K) := by
 unfold m_i_moved mv
 rw [iTgt, sb]
 cases ht : tgt x.fOp
 ·rw [if_neg (by simp), sb, if_neg (by simp)]
 ·have e := moved_go x K hK K.length 0 0 (by omega) (by omega) (by omega)
  rw [show ((0 : Nat) : Int) = 0 from rfl, List.drop_zero, Nat.zero_add] at e
  rw [if_pos rfl, e, sb, sb, if_pos rfl]
end Go.Am
set_option linter.unusedVariables false
set_option linter.unusedSimpArgs false
namespace Go.Am
open Go Go.RowKit Go.Proofs
def TParam.Ok (a : TParam) : Prop := a.fName.length ≤ 9223372036854775807
def TIns.Ok (a : TIns) : Prop := a.fS.length ≤ 9223372036854775807 ∧ a.fT.length ≤ 9223372036854775807
structure TFunc.Ok (a : TFunc) : Prop where
 name : a.fName.length ≤ 9223372036854775807
 params : a.fParams.length ≤ 9223372036854775807
 param : ∀ i, i < a.fParams.length → TParam.Ok (gP a.fParams i)
 uses : a.fUses.length ≤ 9223372036854775807
 use : ∀ i, i < a.fUses.length → TParam.Ok (gP a.fUses i)
 slots : a.fSlots.length ≤ 9223372036854775807
 slot : ∀ i, i < a.fSlots.length → (gS a.fSlots i).length ≤ 9223372036854775807
 code : a.fCode.length ≤ 9223372036854775807
 ins : ∀ i, i < a.fCode.length → TIns.Ok (gC a.fCode i)
theorem sz_loop {L : Int → Int → Option (Int ⊕ Int)} (n : Nat) (hs : ∀ (i : Nat) (y : Int), i < n → 0 ≤ y → y ≤ 1048576 → L y (i : Int) = some (.inr (-1)) ∨ ∃ z, 0 ≤ z ∧ z ≤ y ∧ L y (i : Int) = L z ((i + 1 : Nat) : Int))
  (he : ∀ y, L y (n : Int) = some (.inl y)) : ∀ (f i : Nat) (y : Int), n ≤ i + f → i ≤ n → 0 ≤ y → y ≤ 1048576 → ∃ o, L y (i : Int) = some o ∧ (o = .inr (-1) ∨ ∃ z, o = .inl z ∧ 0 ≤ z ∧ z ≤ y)
 | f, i, y, hf, hi, h0, h1 => by
  by_cases hc : i < n
  ·obtain ⟨g, rfl⟩ : ∃ g, f = g + 1 := ⟨f - 1, by omega⟩
   rcases hs i y hc h0 h1 with e | ⟨z, z0, z1, e⟩
   ·exact ⟨_, e, .inl rfl⟩
   ·obtain ⟨o, e2, h⟩ := sz_loop n hs he g (i + 1) z (by omega) (by omega) z0 (by omega)
    refine ⟨o, e.trans e2, ?_⟩
    rcases h with h | ⟨u, h, h2, h3⟩
    ·exact .inl h
    ·exact .inr ⟨u, h, h2, by omega⟩
  ·have : i = n := by omega
   subst this
   exact ⟨_, he y, .inr ⟨y, rfl, h0, Int.le_refl _⟩⟩
theorem wsub {y : Int} {n : Nat} (h0 : 0 ≤ y) (h1 : y ≤ 1048576) (hn : n ≤ 9223372036854775807) : W64 (y - (n : Int)) = y - (n : Int) := w64 (by omega) (by omega)
theorem szParamS_eq (l : List TParam) (k : Int) (h0 : 0 ≤ k) (h1 : k ≤ 1048576) (hl : l.length ≤ 9223372036854775807) (hp : ∀ i, i < l.length → TParam.Ok (gP l i)) :
  ∃ v, m_l_szParamS l k = some v ∧ (v = -1 ∨ (0 ≤ v ∧ v ≤ k ∧ l.length ≤ 1048576)) := by
 unfold m_l_szParamS
 rw [wsub h0 h1 hl]
 by_cases h : k - (l.length : Int) < 0
 ·rw [if_pos h]; exact ⟨_, rfl, .inl rfl⟩
 ·rw [if_neg h]
  obtain ⟨o, e, ho⟩ := sz_loop (L := m_l_szParamS_L2 l) l.length (fun i y hi y0 y1 => by
   rw [m_l_szParamS_L2, if_pos (by omega), idx_gP hi, sb]
   unfold m_l_szParam
   rw [wsub y0 y1 (hp i hi), w_succ (by omega)]
   by_cases hz : y - ((gP l i).fName.length : Int) < 0
   ·rw [if_pos hz]; exact .inl rfl
   ·rw [if_neg hz, sb, if_neg hz]; exact .inr ⟨_, by omega, by omega, rfl⟩) (fun y => by rw [m_l_szParamS_L2, if_neg (by omega)]) l.length 0 (k - (l.length : Int)) (by omega) (by omega) (by omega) (by omega)
  rw [show ((0 : Nat) : Int) = 0 from rfl] at e
  rw [e, sb]
  rcases ho with rfl | ⟨z, rfl, z0, z1⟩
  ·exact ⟨_, rfl, .inl rfl⟩
  ·exact ⟨_, rfl, .inr ⟨z0, by omega, by omega⟩⟩
theorem szStringS_eq (l : List Str) (k : Int) (h0 : 0 ≤ k) (h1 : k ≤ 1048576) (hl : l.length ≤ 9223372036854775807) (hp : ∀ i, i < l.length → (gS l i).length ≤ 9223372036854775807) :
  ∃ v, m_l_szStringS l k = some v ∧ (v = -1 ∨ (0 ≤ v ∧ v ≤ k ∧ l.length ≤ 1048576)) := by
 unfold m_l_szStringS
 rw [wsub h0 h1 hl]
 by_cases h : k - (l.length : Int) < 0
 ·rw [if_pos h]; exact ⟨_, rfl, .inl rfl⟩
 ·rw [if_neg h]
  obtain ⟨o, e, ho⟩ := sz_loop (L := m_l_szStringS_L2 l) l.length (fun i y hi y0 y1 => by
   rw [m_l_szStringS_L2, if_pos (by omega), idx_gS hi, sb, wsub y0 y1 (hp i hi), w_succ (by omega)]
   by_cases hz : y - ((gS l i).length : Int) < 0
   ·rw [if_pos hz]; exact .inl rfl
   ·rw [if_neg hz]; exact .inr ⟨_, by omega, by omega, rfl⟩) (fun y => by rw [m_l_szStringS_L2, if_neg (by omega)]) l.length 0 (k - (l.length : Int)) (by omega) (by omega) (by omega) (by omega)
  rw [show ((0 : Nat) : Int) = 0 from rfl] at e
  rw [e, sb]
  rcases ho with rfl | ⟨z, rfl, z0, z1⟩
  ·exact ⟨_, rfl, .inl rfl⟩
  ·exact ⟨_, rfl, .inr ⟨z0, by omega, by omega⟩⟩
theorem szInsS_eq (l : List TIns) (k : Int) (h0 : 0 ≤ k) (h1 : k ≤ 1048576) (hl : l.length ≤ 9223372036854775807) (hp : ∀ i, i < l.length → TIns.Ok (gC l i)) :
  ∃ v, m_l_szInsS l k = some v ∧ (v = -1 ∨ (0 ≤ v ∧ v ≤ k ∧ l.length ≤ 1048576)) := by
 unfold m_l_szInsS
 rw [wsub h0 h1 hl]
 by_cases h : k - (l.length : Int) < 0
 ·rw [if_pos h]; exact ⟨_, rfl, .inl rfl⟩
 ·rw [if_neg h]
  obtain ⟨o, e, ho⟩ := sz_loop (L := m_l_szInsS_L2 l) l.length (fun i y hi y0 y1 => by
   obtain ⟨p1, p2⟩ := hp i hi
   rw [m_l_szInsS_L2, if_pos (by omega), idx_gC hi, sb]
   unfold m_l_szIns
   rw [wsub y0 y1 p1, w_succ (by omega)]
   by_cases hz : y - ((gC l i).fS.length : Int) < 0
   ·rw [if_pos hz]; exact .inl rfl
   ·rw [if_neg hz, wsub (by omega) (by omega) p2]
    by_cases hz2 : y - ((gC l i).fS.length : Int) - ((gC l i).fT.length : Int) < 0
    ·rw [if_pos hz2]; exact .inl rfl
    ·rw [if_neg hz2, sb, if_neg hz2]; exact .inr ⟨_, by omega, by omega, rfl⟩) (fun y => by rw [m_l_szInsS_L2, if_neg (by omega)]) l.length 0 (k - (l.length : Int)) (by omega) (by omega) (by omega) (by omega)
  rw [show ((0 : Nat) : Int) = 0 from rfl] at e
  rw [e, sb]
  rcases ho with rfl | ⟨z, rfl, z0, z1⟩
  ·exact ⟨_, rfl, .inl rfl⟩
  ·exact ⟨_, rfl, .inr ⟨z0, by omega, by omega⟩⟩
theorem szFunc_eq (a : TFunc) (ha : a.Ok) (k : Int) (h0 : 0 ≤ k) (h1 : k ≤ 1048576) : ∃ v, m_l_szFunc a k = some v ∧ (v = -1 ∨ (0 ≤ v ∧ v ≤ k ∧ Fits a)) := by
 unfold m_l_szFunc
 rw [wsub h0 h1 ha.name]
 by_cases h : k - (a.fName.length : Int) < 0
 ·rw [if_pos h]; exact ⟨_, rfl, .inl rfl⟩
 rw [if_neg h]
 obtain ⟨v1, e1, c1⟩ := szParamS_eq a.fParams (k - (a.fName.length : Int)) (by omega) (by omega) ha.params ha.param
 rw [e1, sb]
 rcases c1 with rfl | ⟨p1, p2, p3⟩
 ·rw [if_pos (by omega)]; exact ⟨_, rfl, .inl rfl⟩
 rw [if_neg (by omega)]
 obtain ⟨v2, e2, c2⟩ := szParamS_eq a.fUses v1 p1 (by omega) ha.uses ha.use
 rw [e2, sb]
 rcases c2 with rfl | ⟨q1, q2, q3⟩
 ·rw [if_pos (by omega)]; exact ⟨_, rfl, .inl rfl⟩
 rw [if_neg (by omega)]
 obtain ⟨v3, e3, c3⟩ := szStringS_eq a.fSlots v2 q1 (by omega) ha.slots ha.slot
 rw [e3, sb]
 rcases c3 with rfl | ⟨r1, r2, r3⟩
 ·rw [if_pos (by omega)]; exact ⟨_, rfl, .inl rfl⟩
 rw [if_neg (by omega)]
 obtain ⟨v4, e4, c4⟩ := szInsS_eq a.fCode v3 r1 (by omega) ha.code ha.ins
 rw [e4, sb]
 rcases c4 with rfl | ⟨s1, s2, s3⟩
 ·rw [if_pos (by omega)]; exact ⟨_, rfl, .inl rfl⟩
 rw [if_neg (by omega)]
 exact ⟨_, rfl, .inr ⟨s1, by omega, ⟨by omega, by omega, by omega, by omega, by omega⟩⟩⟩
theorem to_loop {α : Type} (a : List α) {L : List α → Int → Option (List α)} (hs : ∀ (l : List α) (k : Nat) (h : k < a.length), l.length = a.length → L l (k : Int) = L (l.set k a[k]) ((k + 1 : Nat) : Int))
  (he : ∀ l, L l (a.length : Int) = some l) : ∀ (f k : Nat) (l : List α), a.length ≤ k + f → k ≤ a.length → l.length = a.length → (∀ j, j < k → l[j]? = a[j]?) → L l (k : Int) = some a
 | f, k, l, hf, hk, hl, hj => by
  by_cases hc : k < a.length
  ·obtain ⟨g, rfl⟩ : ∃ g, f = g + 1 := ⟨f - 1, by omega⟩
   rw [hs l k hc hl]
   refine to_loop a hs he g (k + 1) _ (by omega) (by omega) (by rw [List.length_set]; exact hl) (fun j hj2 => ?_)
   rw [List.getElem?_set]
   by_cases h : k = j
   ·subst h
    rw [if_pos rfl, if_pos (by omega), List.getElem?_eq_getElem hc]
   ·rw [if_neg h]; exact hj j (by omega)
  ·have : k = a.length := by omega
   subst this
   rw [he l]
   congr 1
   refine List.ext_getElem? fun j => ?_
   by_cases h : j < a.length
   ·exact hj j h
   ·rw [List.getElem?_eq_none (by omega), List.getElem?_eq_none (by omega)]
theorem mk_eq {α : Type} [Inhabited α] {b n : Nat} (hn : n ≤ 2000000) (hb : b ≤ 100) : (lmake b (n : Int) (n : Int) : Option (List α)) = some (List.replicate n default) := by
 unfold lmake
 have : n * b ≤ 2000000 * 100 := Nat.mul_le_mul hn hb
 rw [if_pos ⟨by omega, by omega, by omega, by simp only [Int.toNat_natCast]; omega⟩]; rfl
theorem toParamS_eq (a : List TParam) (hn : a.length ≤ 2000000) : m_l_toParamS a = some a := by
 unfold m_l_toParamS
 have e := to_loop a (L := m_l_toParamS_L2 a) (fun l k hk hl => by rw [m_l_toParamS_L2, if_pos (by omega), idx_nat hk, sb, idx_nat (by omega), sb, w_succ (by omega)]; rfl) (fun l => by rw [m_l_toParamS_L2, if_neg (by omega)]) a.length 0 (List.replicate a.length default) (by omega) (by omega) (by simp) (fun j h => absurd h (by omega))
 rw [show ((0 : Nat) : Int) = 0 from rfl] at e
 rw [mk_eq hn (by omega), sb, e]; rfl
theorem toStringS_eq (a : List Str) (hn : a.length ≤ 2000000) : m_l_toStringS a = some a := by
 unfold m_l_toStringS
 have e := to_loop a (L := m_l_toStringS_L2 a) (fun l k hk hl => by rw [m_l_toStringS_L2, if_pos (by omega), idx_nat hk, sb, idx_nat (by omega), sb, w_succ (by omega)]; rfl) (fun l => by rw [m_l_toStringS_L2, if_neg (by omega)]) a.length 0 (List.replicate a.length default) (by omega) (by omega) (by simp) (fun j h => absurd h (by omega))
 rw [show ((0 : Nat) : Int) = 0 from rfl] at e
 rw [mk_eq hn (by omega), sb, e]; rfl
theorem toInsS_eq (a : List TIns) (hn : a.length ≤ 2000000) : m_l_toInsS a = some a := by
 unfold m_l_toInsS
 have e := to_loop a (L := m_l_toInsS_L2 a) (fun l k hk hl => by rw [m_l_toInsS_L2, if_pos (by omega), idx_nat hk, sb, idx_nat (by omega), sb, w_succ (by omega)]; rfl) (fun l => by rw [m_l_toInsS_L2, if_neg (by omega)]) a.length 0 (List.replicate a.length default) (by omega) (by omega) (by simp) (fun j h => absurd h (by omega))
 rw [show ((0 : Nat) : Int) = 0 from rfl] at e
 rw [mk_eq hn (by omega), sb, e]; rfl
theorem toFunc_eq (a : TFunc) (ha : Fits a) : m_l_toFunc a = some a := by
 unfold m_l_toFunc
 rw [toParamS_eq _ ha.params, sb, toParamS_eq _ ha.uses, sb, toStringS_eq _ ha.slots, sb, toInsS_eq _ ha.code, sb]
theorem self_loop {L : Int → Option (Unit ⊕ Bool)} (n : Nat) (hs : ∀ k : Nat, k < n → L (k : Int) = L ((k + 1 : Nat) : Int)) (he : L (n : Int) = some (.inl ())) : L 0 = some (.inl ()) := by
 rw [loop_all0 (L := L) (fun _ => true) n (fun k hk => ⟨fun _ => hs k hk, (fun h => by cases h)⟩) he, if_pos (allN_iff.2 fun _ _ _ => rfl)]
theorem eqIns_self (x : TIns) : m_l_eqIns x x = some true := by
 unfold m_l_eqIns; rw [if_pos rfl, if_pos rfl, if_pos rfl, if_pos rfl, if_pos rfl]
theorem eqParam_self (x : TParam) : m_l_eqParam x x = some true := by
 unfold m_l_eqParam; rw [if_pos rfl, if_pos rfl]
theorem eqParamS_self (l : List TParam) (hn : l.length ≤ 2000000) : m_l_eqParamS l l = some true := by
 unfold m_l_eqParamS
 rw [if_pos rfl, self_loop (L := m_l_eqParamS_L2 l l) l.length (fun k hk => by rw [m_l_eqParamS_L2, if_pos (by omega), idx_gP hk, sb, sb, eqParam_self, sb, if_pos rfl, w_succ (by omega)]) (by rw [m_l_eqParamS_L2, if_neg (by omega)])]; rfl
theorem eqStringS_self (l : List Str) (hn : l.length ≤ 2000000) : m_l_eqStringS l l = some true := by
 unfold m_l_eqStringS
 rw [if_pos rfl, self_loop (L := m_l_eqStringS_L2 l l) l.length (fun k hk => by rw [m_l_eqStringS_L2, if_pos (by omega), idx_gS hk, sb, sb, if_pos rfl, w_succ (by omega)]) (by rw [m_l_eqStringS_L2, if_neg (by omega)])]; rfl
theorem eqInsS_self (l : List TIns) (hn : l.length ≤ 2000000) : m_l_eqInsS l l = some true := by
 unfold m_l_eqInsS
 rw [if_pos rfl, self_loop (L := m_l_eqInsS_L2 l l) l.length (fun k hk => by rw [m_l_eqInsS_L2, if_pos (by omega), idx_gC hk, sb, sb, eqIns_self, sb, if_pos rfl, w_succ (by omega)]) (by rw [m_l_eqInsS_L2, if_neg (by omega)])]; rfl
theorem eqFunc_self (a : TFunc) (ha : Fits a) : m_l_eqFunc a a = some true := by
 unfold m_l_eqFunc
 rw [if_pos rfl, eqParamS_self _ ha.params, sb, if_pos rfl, eqParamS_self _ ha.uses, sb, if_pos rfl, eqStringS_self _ ha.slots, sb, if_pos rfl, if_pos rfl, eqInsS_self _ ha.code, sb, if_pos rfl]
end Go.Am
set_option linter.unusedVariables false
set_option linter.unusedSimpArgs false
namespace Go.Am
open Go Go.RowKit Go.Proofs
theorem mt_go : ∀ (f : Nat) (y : Int) (s : Str), 0 ≤ y → y ≤ 9223372036854775807 → y < 10 ^ f → s.length + f ≤ 1000 → ∃ r, m_l_markText_L2 y s = some r ∧ r.length ≤ s.length + f
 | 0, y, s, h0, hm, h1, h2 => by
  rw [m_l_markText_L2, if_neg (by omega)]; exact ⟨s, rfl, by omega⟩
 | f + 1, y, s, h0, hm, h1, h2 => by
  rw [m_l_markText_L2]
  by_cases h : y > 0
  ·have h3 : y.tdiv 10 = y / 10 := Int.tdiv_eq_ediv_of_nonneg h0
   rw [Int.pow_succ] at h1
   have hb : W64 (y.tdiv 10) = y / 10 := by rw [h3]; exact w64 (by omega) (by omega)
   have e : scat ([UInt8.ofNat (IntKind.u8.wrap (W64 (48 + (y.tmod 10)))).toNat] : List UInt8) s = some ([UInt8.ofNat (IntKind.u8.wrap (W64 (48 + (y.tmod 10)))).toNat] ++ s) := if_pos (by simp; omega)
   rw [if_pos h, e, sb, hb]
   obtain ⟨r, e2, h4⟩ := mt_go f (y / 10) ([UInt8.ofNat (IntKind.u8.wrap (W64 (48 + (y.tmod 10)))).toNat] ++ s) (by omega) (by omega) (by omega) (by simp; omega)
   exact ⟨r, e2, by simp at h4; omega⟩
  ·rw [if_neg h]; exact ⟨s, rfl, by omega⟩
def mtx (k : Int) : Str := (m_l_markText k).getD []
theorem mtx_eq (k : Int) (h : k ≤ 9223372036854775807) : m_l_markText k = some (mtx k) := by
 suffices ∃ s, m_l_markText k = some s by obtain ⟨s, e⟩ := this; rw [mtx, e]; rfl
 unfold m_l_markText
 by_cases hk : k ≤ 0
 ·rw [if_pos hk]; exact ⟨_, rfl⟩
 ·rw [if_neg hk]
  obtain ⟨r, e, hr⟩ := mt_go 19 k [] (by omega) h (by omega) (by simp)
  rw [e, sb]
  have : scat [109] r = some ([109] ++ r) := if_pos (by simp at hr ⊢; omega)
  rw [this]; exact ⟨_, rfl⟩
def mrk {α : Type} (c : Int) (f : Int → α) (n : Nat) (y : Int) : List α := (List.range n).map fun i : Nat => f (y + c * (i : Int))
theorem mrk_len {α : Type} {c : Int} {f : Int → α} {n : Nat} {y : Int} : (mrk c f n y).length = n := by simp [mrk]
theorem mrk_at {α : Type} {c : Int} {f : Int → α} {n : Nat} {y : Int} {i : Nat} (h : i < n) : (mrk c f n y)[i]? = some (f (y + c * i)) := by simp [mrk, h]
theorem mrk_all {α : Type} (c : Nat) (f : Int → α) (l : List α) (L : List α → Int → Int → Option (Int × List α)) (y0 B : Int) (hB : y0 + c * l.length ≤ B)
  (hs : ∀ (m : List α) (y : Int) (i : Nat), i < m.length → m.length = l.length → 0 ≤ y → y ≤ B → L m y (i : Int) = L (m.set i (f y)) (y + c) ((i + 1 : Nat) : Int)) (he : ∀ (m : List α) (y : Int), m.length = l.length → L m y (l.length : Int) = some (y, m)) (h0 : 0 ≤ y0) :
  L l y0 0 = some (y0 + c * l.length, mrk c f l.length y0) := by
 suffices h : ∀ (g i : Nat) (m : List α), l.length ≤ i + g → i ≤ l.length → m.length = l.length → (∀ j, j < i → m[j]? = (mrk c f l.length y0)[j]?) → L m (y0 + c * i) (i : Int) = some (y0 + c * l.length, mrk c f l.length y0) by
  have := h l.length 0 l (by omega) (by omega) rfl (fun j hj => absurd hj (by omega))
  simpa using this
 intro g
 induction g with
 | zero =>
  intro i m hg hi hl hj
  have : i = l.length := by omega
  subst this
  rw [he _ _ hl]
  congr 2
  refine List.ext_getElem? fun j => ?_
  by_cases h : j < l.length
  ·exact hj j h
  ·rw [List.getElem?_eq_none (by omega), List.getElem?_eq_none (by rw [mrk_len]; omega)]
 | succ g ih =>
  intro i m hg hi hl hj
  by_cases hc : i < l.length
  ·have hci : (c : Int) * i ≤ c * l.length := Int.mul_le_mul_of_nonneg_left (by omega) (by omega)
   have hci0 : (0 : Int) ≤ c * i := Int.mul_nonneg (by omega) (by omega)
   rw [hs m _ i (by omega) hl (by omega) (by omega)]
   have := ih (i + 1) (m.set i (f (y0 + c * i))) (by omega) (by omega) (by simpa using hl) (fun j hj2 => by
    rw [List.getElem?_set]
    by_cases h : i = j
    ·subst h; rw [if_pos rfl, if_pos (by omega), mrk_at hc]
    ·rw [if_neg h]; exact hj j (by omega))
   rw [← this, show ((i + 1 : Nat) : Int) = (i : Int) + 1 from rfl, Int.mul_add, Int.mul_one, Int.add_assoc]
  ·have : i = l.length := by omega
   subst this
   rw [he _ _ hl]
   congr 2
   refine List.ext_getElem? fun j => ?_
   by_cases h : j < l.length
   ·exact hj j h
   ·rw [List.getElem?_eq_none (by omega), List.getElem?_eq_none (by rw [mrk_len]; omega)]
theorem held_all {α : Type} (c : Nat) (f : Int → α) (n : Nat) (L : Int → Int → Option (Int ⊕ Int)) (y0 B : Int) (hB : y0 + c * n ≤ B)
  (hs : ∀ (y : Int) (i : Nat), i < n → y = y0 + c * i → 0 ≤ y → y ≤ B → L y (i : Int) = L (y + c) ((i + 1 : Nat) : Int)) (he : ∀ y, L y (n : Int) = some (.inl y)) (h0 : 0 ≤ y0) : L y0 0 = some (.inl (y0 + c * n)) := by
 suffices h : ∀ (g i : Nat), n ≤ i + g → i ≤ n → L (y0 + c * i) (i : Int) = some (.inl (y0 + c * n)) by
  have := h n 0 (by omega) (by omega)
  simpa using this
 intro g
 induction g with
 | zero =>
  intro i hg hi
  have : i = n := by omega
  subst this
  exact he _
 | succ g ih =>
  intro i hg hi
  by_cases hc : i < n
  ·have hci : (c : Int) * i ≤ c * n := Int.mul_le_mul_of_nonneg_left (by omega) (by omega)
   have hci0 : (0 : Int) ≤ c * i := Int.mul_nonneg (by omega) (by omega)
   rw [hs _ i hc rfl (by omega) (by omega)]
   rw [← ih (i + 1) (by omega) (by omega), show ((i + 1 : Nat) : Int) = (i : Int) + 1 from rfl, Int.mul_add, Int.mul_one, Int.add_assoc]
  ·have : i = n := by omega
   subst this
   exact he _
theorem idx_mrk {α : Type} [Inhabited α] {c : Int} {f : Int → α} {n : Nat} {y : Int} {i : Nat} (h : i < n) : idx (mrk c f n y) (i : Int) = some (f (y + c * i)) := by
 rw [idx_nat (by rw [mrk_len]; exact h)]
 have := mrk_at (c := c) (f := f) (y := y) h
 rw [List.getElem?_eq_getElem (by rw [mrk_len]; exact h)] at this
 exact this
theorem idx_set {α : Type} [Inhabited α] {l : List α} {i : Nat} {x : α} (h : i < l.length) : idx (l.set i x) (i : Int) = some x := by
 rw [idx_nat (by simpa using h)]; simp
def fP (y : Int) : TParam := ⟨mtx y, ((y + 1).tmod 3) == 0⟩
def fC (y : Int) : TIns := ⟨y, y + 1, y + 2, mtx (y + 3), mtx (y + 4)⟩
theorem wp {y : Int} {c : Int} (h0 : 0 ≤ y) (h1 : y ≤ 2000000000) (hc : 0 ≤ c) (hc2 : c ≤ 100) : W64 (y + c) = y + c := w64 (by omega) (by omega)
theorem markParamS_eq (l : List TParam) (y : Int) (h0 : 0 ≤ y) (h1 : y + 2 * l.length ≤ 1000000000) : m_l_markParamS l y = some (y + 2 * l.length, mrk 2 fP l.length y) := by
 unfold m_l_markParamS
 have := mrk_all 2 fP l m_l_markParamS_L2 y 1000000000 h1 (fun m y i hi hl h0 h1 => by
  rw [m_l_markParamS_L2, if_pos (by omega), mtx_eq _ (by omega), sb, idx_nat hi, sb, Int.toNat_natCast, idx_set hi, sb, List.set_set, w_succ (by omega), wp h0 (by omega) (by omega) (by omega), wp (by omega) (by omega) (by omega) (by omega)]
  congr 1; omega) (fun m y hl => by rw [m_l_markParamS_L2, if_neg (by omega)]) h0
 rw [this]; rfl
theorem markStringS_eq (l : List Str) (y : Int) (h0 : 0 ≤ y) (h1 : y + 1 * l.length ≤ 1000000000) : m_l_markStringS l y = some (y + 1 * l.length, mrk 1 mtx l.length y) := by
 unfold m_l_markStringS
 have := mrk_all 1 mtx l m_l_markStringS_L2 y 1000000000 h1 (fun m y i hi hl h0 h1 => by
  rw [m_l_markStringS_L2, if_pos (by omega), mtx_eq _ (by omega), sb, idx_nat hi, sb, Int.toNat_natCast, w_succ (by omega), wp h0 (by omega) (by omega) (by omega)]
  congr 1) (fun m y hl => by rw [m_l_markStringS_L2, if_neg (by omega)]) h0
 rw [this]; rfl
theorem markInsS_eq (l : List TIns) (y : Int) (h0 : 0 ≤ y) (h1 : y + 5 * l.length ≤ 1000000000) : m_l_markInsS l y = some (y + 5 * l.length, mrk 5 fC l.length y) := by
 unfold m_l_markInsS
 have := mrk_all 5 fC l m_l_markInsS_L2 y 1000000000 h1 (fun m y i hi hl h0 h1 => by
  have e2 : W64 (W64 (y + 1) + 1) = y + 2 := by rw [wp h0 (by omega) (by omega) (by omega), W64, w64 (by omega) (by omega)]; omega
  have e3 : W64 (y + 2 + 1) = y + 3 := by rw [W64, w64 (by omega) (by omega)]; omega
  have e4 : W64 (y + 3 + 1) = y + 4 := by rw [W64, w64 (by omega) (by omega)]; omega
  have e5 : W64 (y + 4 + 1) = y + 5 := by rw [W64, w64 (by omega) (by omega)]; omega
  rw [m_l_markInsS_L2, if_pos (by omega), idx_nat hi, sb, Int.toNat_natCast, idx_set hi, sb, List.set_set, idx_set hi, sb, List.set_set, e2, e3, e4, e5, mtx_eq _ (by omega), sb, idx_set hi, sb, List.set_set, mtx_eq _ (by omega), sb, idx_set hi, sb, List.set_set, w_succ (by omega), wp h0 (by omega) (by omega) (by omega)]
  congr 1) (fun m y hl => by rw [m_l_markInsS_L2, if_neg (by omega)]) h0
 rw [this]; rfl
theorem heldParamS_eq (n : Nat) (y : Int) (h0 : 0 ≤ y) (h1 : y + 2 * n ≤ 1000000000) : m_l_heldParamS (mrk 2 fP n y) y = some (y + 2 * n) := by
 unfold m_l_heldParamS
 have := held_all 2 fP n (m_l_heldParamS_L2 (mrk 2 fP n y)) y 1000000000 h1 (fun z i hi e h0 h1 => by
  rw [m_l_heldParamS_L2, if_pos (by rw [mrk_len]; omega), idx_mrk hi, sb, mtx_eq _ (by omega), sb, sb, ← (show z = y + 2 * i from e), wp h0 (by omega) (by omega) (by omega), wp (by omega) (by omega) (by omega) (by omega), if_pos (show (fP z).fName = mtx z from rfl), if_pos (show (fP z).fRef = ((z + 1).tmod 3 == 0) from rfl), w_succ (by omega)]
  congr 1; omega) (fun z => by rw [m_l_heldParamS_L2, if_neg (by rw [mrk_len]; omega)]) h0
 rw [this]; rfl
theorem heldStringS_eq (n : Nat) (y : Int) (h0 : 0 ≤ y) (h1 : y + 1 * n ≤ 1000000000) : m_l_heldStringS (mrk 1 mtx n y) y = some (y + 1 * n) := by
 unfold m_l_heldStringS
 have := held_all 1 mtx n (m_l_heldStringS_L2 (mrk 1 mtx n y)) y 1000000000 h1 (fun z i hi e h0 h1 => by
  rw [m_l_heldStringS_L2, if_pos (by rw [mrk_len]; omega), idx_mrk hi, sb, mtx_eq _ (by omega), sb, ← (show z = y + 1 * i from e), wp h0 (by omega) (by omega) (by omega), if_pos rfl, w_succ (by omega)]
  rfl) (fun z => by rw [m_l_heldStringS_L2, if_neg (by rw [mrk_len]; omega)]) h0
 rw [this]; rfl
theorem heldInsS_eq (n : Nat) (y : Int) (h0 : 0 ≤ y) (h1 : y + 5 * n ≤ 1000000000) : m_l_heldInsS (mrk 5 fC n y) y = some (y + 5 * n) := by
 unfold m_l_heldInsS
 have := held_all 5 fC n (m_l_heldInsS_L2 (mrk 5 fC n y)) y 1000000000 h1 (fun z i hi e h0 h1 => by
  have e2 : W64 (W64 (z + 1) + 1) = z + 2 := by rw [wp h0 (by omega) (by omega) (by omega), W64, w64 (by omega) (by omega)]; omega
  have e3 : W64 (z + 2 + 1) = z + 3 := by rw [W64, w64 (by omega) (by omega)]; omega
  have e4 : W64 (z + 3 + 1) = z + 4 := by rw [W64, w64 (by omega) (by omega)]; omega
  have e5 : W64 (z + 4 + 1) = z + 5 := by rw [W64, w64 (by omega) (by omega)]; omega
  rw [m_l_heldInsS_L2, if_pos (by rw [mrk_len]; omega), idx_mrk hi, sb, ← (show z = y + 5 * i from e), e2, e3, e4, e5, wp h0 (by omega) (by omega) (by omega)]
  simp only [sb, mtx_eq _ (show z + 3 ≤ 9223372036854775807 by omega), mtx_eq _ (show z + 4 ≤ 9223372036854775807 by omega), w_succ (show i < 9223372036854775807 by omega)]
  rw [if_pos (show (fC z).fOp = z from rfl), if_pos (show (fC z).fA = z + 1 from rfl), if_pos (show (fC z).fB = z + 2 from rfl), if_pos (show (fC z).fS = mtx (z + 3) from rfl), if_pos (show (fC z).fT = mtx (z + 4) from rfl)]
  rfl) (fun z => by rw [m_l_heldInsS_L2, if_neg (by rw [mrk_len]; omega)]) h0
 rw [this]; rfl
def mkF (a : TFunc) (y : Int) : TFunc :=
 ⟨a.fName, mrk 2 fP a.fParams.length y, mrk 2 fP a.fUses.length (y + 2 * a.fParams.length), mrk 1 mtx a.fSlots.length (y + 2 * a.fParams.length + 2 * a.fUses.length), a.fGen, mrk 5 fC a.fCode.length (y + 2 * a.fParams.length + 2 * a.fUses.length + 1 * a.fSlots.length)⟩
def mkN (a : TFunc) (y : Int) : Int := y + 2 * a.fParams.length + 2 * a.fUses.length + 1 * a.fSlots.length + 5 * a.fCode.length
theorem markFunc_eq (a : TFunc) (ha : Fits a) (y : Int) (h0 : 0 ≤ y) (h1 : y ≤ 100000000) : m_l_markFunc a y = some (mkN a y, mkF a y) := by
 have q1 := ha.params
 have q2 := ha.uses
 have q3 := ha.slots
 have q4 := ha.code
 unfold m_l_markFunc
 rw [markParamS_eq _ _ h0 (by omega), sb]
 dsimp only
 rw [markParamS_eq _ _ (by omega) (by omega), sb]
 dsimp only
 rw [markStringS_eq _ _ (by omega) (by omega), sb]
 dsimp only
 rw [markInsS_eq _ _ (by omega) (by omega), sb]
 rfl
theorem heldFunc_eq (a : TFunc) (ha : Fits a) (y : Int) (h0 : 0 ≤ y) (h1 : y ≤ 100000000) : m_l_heldFunc (mkF a y) y = some (mkN a y) := by
 have q1 := ha.params
 have q2 := ha.uses
 have q3 := ha.slots
 have q4 := ha.code
 unfold m_l_heldFunc mkF
 dsimp only
 rw [heldParamS_eq _ _ h0 (by omega), sb, if_neg (by omega), heldParamS_eq _ _ (by omega) (by omega), sb, if_neg (by omega), heldStringS_eq _ _ (by omega) (by omega), sb, if_neg (by omega), heldInsS_eq _ _ (by omega) (by omega), sb, if_neg (by omega)]
 rfl
end Go.Am
set_option linter.unusedVariables false
set_option linter.unusedSimpArgs false
namespace Go.Am
open Go Go.RowKit Go.Proofs
theorem cloneP_eq (l : List TParam) (hn : l.length ≤ 2000000) : m_CloneP l = some l := by
 unfold m_CloneP; rw [lapp_eq (by simp; omega), sb]; rfl
theorem cloneS_eq (l : List Str) (hn : l.length ≤ 2000000) : m_CloneS l = some l := by
 unfold m_CloneS; rw [lapp_eq (by simp; omega), sb]; rfl
theorem cloneI_eq (l : List TIns) (hn : l.length ≤ 2000000) : m_CloneI l = some l := by
 unfold m_CloneI; rw [lapp_eq (by simp; omega), sb]; rfl
theorem iCopy_eq (a : TFunc) (ha : Fits a) : m_i_copyFunc a = some a := by
 unfold m_i_copyFunc
 rw [cloneP_eq _ ha.params, sb, cloneP_eq _ ha.uses, sb, cloneS_eq _ ha.slots, sb, cloneI_eq _ ha.code, sb]
theorem sCopy_eq (a : TFunc) (ha : Fits a) : m_s_l30Copy a = some a := by
 have q1 := ha.params
 have q2 := ha.uses
 have q3 := ha.slots
 have q4 := ha.code
 unfold m_s_l30Copy
 rw [lapp_eq (by simp; omega), sb, sb, lapp_eq (by simp; omega), sb, sb, lapp_eq (by simp; omega), sb, sb, lapp_eq (by simp; omega), sb]
 rfl
theorem map_go {α : Type} (th : α → α) (code : List α) (L : List α → Int → Option (List α)) (hs : ∀ (l : List α) (k : Nat) (h : k < code.length), l.length = code.length → l[k]? = some code[k] → L l (k : Int) = L (l.set k (th code[k])) ((k + 1 : Nat) : Int))
  (he : ∀ l : List α, l.length = code.length → L l (code.length : Int) = some l) : L code 0 = some (code.map th) := by
 suffices h : ∀ (g k : Nat) (l : List α), code.length ≤ k + g → k ≤ code.length → l.length = code.length → (∀ j, j < k → l[j]? = (code.map th)[j]?) → (∀ j, k ≤ j → l[j]? = code[j]?) → L l (k : Int) = some (code.map th) from
  h code.length 0 code (by omega) (by omega) rfl (fun j hj => absurd hj (by omega)) (fun j _ => rfl)
 intro g
 have fin : ∀ (k : Nat) (l : List α), k = code.length → l.length = code.length → (∀ j, j < k → l[j]? = (code.map th)[j]?) → L l (k : Int) = some (code.map th) := fun k l hk hl h1 => by
  subst hk
  rw [he l hl]
  congr 1
  refine List.ext_getElem? fun j => ?_
  by_cases h : j < code.length
  ·exact h1 j h
  ·rw [List.getElem?_eq_none (by omega), List.getElem?_eq_none (by simp; omega)]
 induction g with
 | zero => intro k l hg hk hl h1 _; exact fin k l (by omega) hl h1
 | succ g ih =>
  intro k l hg hk hl h1 h2
  by_cases hc : k < code.length
  ·rw [hs l k hc hl (by rw [h2 k (by omega), List.getElem?_eq_getElem hc])]
   refine ih (k + 1) _ (by omega) (by omega) (by simpa using hl) (fun j hj => ?_) (fun j hj => ?_)
   ·rw [List.getElem?_set]
    by_cases h : k = j
    ·subst h; rw [if_pos rfl, if_pos (by omega)]; simp [hc]
    ·rw [if_neg h]; exact h1 j (by omega)
   ·rw [List.getElem?_set, if_neg (by omega)]; exact h2 j (by omega)
  ·exact fin k l (by omega) hl h1
def lastW (code : List TIns) (a : Int) : Int := (((a : Int) :: wk code code.length a.toNat).getLast?).getD 0
def th (code : List TIns) (x : TIns) : TIns := if tgt x.fOp = true then ⟨x.fOp, lastW code x.fA, x.fB, x.fS, x.fT⟩ else x
theorem idx_of {α : Type} [Inhabited α] {l : List α} {k : Nat} {x : α} (h : l[k]? = some x) : idx l (k : Int) = some x := by
 obtain ⟨hk, e⟩ := List.getElem?_eq_some_iff.1 h
 rw [idx_nat hk, e]
theorem set_self {α : Type} {l : List α} {k : Nat} {x : α} (h : l[k]? = some x) : l.set k x = l := by
 refine List.ext_getElem? fun j => ?_
 rw [List.getElem?_set]
 by_cases q : k = j
 ·subst q
  obtain ⟨hk, e⟩ := List.getElem?_eq_some_iff.1 h
  rw [if_pos rfl, if_pos hk, h]
 ·rw [if_neg q]
section
variable (a : TFunc) (ha : Fits a) (hA : ∀ i (hi : i < a.fCode.length), tgt (a.fCode[i]).fOp = true → 0 ≤ (a.fCode[i]).fA ∧ (a.fCode[i]).fA < a.fCode.length)
include ha hA
theorem iThread_loop : m_i_ThreadCode_L2 a a.fCode 0 = some (a.fCode.map (th a.fCode)) := by
 have hc := ha.code
 refine map_go (th a.fCode) a.fCode _ (fun l k hk hl he => ?_) (fun l hl => by rw [m_i_ThreadCode_L2, if_neg (by omega)])
 have hT := hA k hk
 rw [m_i_ThreadCode_L2, if_pos (by omega), idx_nat hk, sb, iTgt, sb, w_succ (by omega)]
 generalize hx : a.fCode[k] = x at hT he ⊢
 unfold th
 cases ht : tgt x.fOp
 ·rw [if_neg (by simp), if_neg (by simp), set_self he]
 ·obtain ⟨h0, h1⟩ := hT ht
  obtain ⟨t, et⟩ : ∃ t : Nat, x.fA = (t : Int) := ⟨x.fA.toNat, by omega⟩
  have ew := iWalk (jumps_of hA) hc (a := t) (by omega)
  rw [← et] at ew
  have hlen : ∀ (n t : Nat), (wk a.fCode n t).length ≤ n := fun n => by
   induction n with
   | zero => intro t; simp [wk]
   | succ n ih =>
    intro t
    unfold wk
    cases nxt a.fCode t with
    | none => simp
    | some b => have := ih b; simp; exact this
  have hl2 := hlen a.fCode.length t
  rw [if_pos rfl, if_pos rfl, ew, sb, w_nat (x := (((x.fA :: wk a.fCode a.fCode.length t).length : Nat) : Int) - 1) (n := (wk a.fCode a.fCode.length t).length) (by simp) (by omega)]
  have el : idx (x.fA :: wk a.fCode a.fCode.length t) ((wk a.fCode a.fCode.length t).length : Int) = some (lastW a.fCode x.fA) := by
   rw [idx_nat (by simp)]
   unfold lastW
   rw [List.getLast?_eq_getElem?, et, Int.toNat_natCast]
   simp
  rw [el, sb, idx_of he, sb, Int.toNat_natCast]
theorem sThread_loop : m_s_ThreadCode_L2 a a.fCode 0 = some (a.fCode.map (th a.fCode)) := by
 have hc := ha.code
 refine map_go (th a.fCode) a.fCode _ (fun l k hk hl he => ?_) (fun l hl => by rw [m_s_ThreadCode_L2, if_neg (by omega)])
 have hT := hA k hk
 rw [m_s_ThreadCode_L2, if_pos (by omega), idx_nat hk, sb, sTgt, sb, w_succ (by omega)]
 generalize hx : a.fCode[k] = x at hT he ⊢
 unfold th
 cases ht : tgt x.fOp
 ·rw [if_neg (by simp), if_neg (by simp), set_self he]
 ·obtain ⟨h0, h1⟩ := hT ht
  obtain ⟨t, et⟩ : ∃ t : Nat, x.fA = (t : Int) := ⟨x.fA.toNat, by omega⟩
  obtain ⟨r, ew, hr⟩ := sWalk (jumps_of hA) hc (-1) (a := t) (by omega)
  rw [← et] at ew hr
  have hnn : ∀ (n t : Nat), (-1 : Int) ∉ wk a.fCode n t := fun n => by
   induction n with
   | zero => intro t; simp [wk]
   | succ n ih =>
    intro t
    unfold wk
    cases nxt a.fCode t with
    | none => simp
    | some b =>
     have := ih b
     intro hm
     rcases List.mem_cons.1 hm with q | q
     ·omega
     ·exact this q
  have hr2 := hr (by
   intro hm
   rcases List.mem_cons.1 hm with q | q
   ·omega
   ·exact hnn _ _ q)
  have el : r = lastW a.fCode x.fA := by
   unfold lastW
   rw [et, Int.toNat_natCast, ← et, ← hr2]; rfl
  rw [if_pos rfl, if_pos rfl, sb, ew, sb, el]
  dsimp only
  rw [idx_of he, sb, Int.toNat_natCast]
end
theorem thread_code (a : TFunc) (ha : Fits a) : ∃ w, m_i_ThreadCode a = some w ∧ m_s_ThreadCode a = some w ∧ Fits w := by
 unfold m_i_ThreadCode m_s_ThreadCode
 obtain ⟨v1, i1, s1, f1⟩ := isFunc_fits a ha
 rw [iCopy_eq a ha, sCopy_eq a ha, sb, sb, i1, s1, sb, sb]
 cases v1
 ·rw [if_neg (by simp), if_neg (by simp)]; exact ⟨_, rfl, rfl, ha⟩
 ·obtain ⟨H, eH, sH, hH, hA⟩ := f1 rfl
  rw [if_pos rfl, if_pos rfl, iThread_loop a ha hA, sThread_loop a ha hA, sb]
  exact ⟨_, rfl, rfl, ⟨by simpa using ha.code, ha.slots, ha.params, ha.uses, ha.name⟩⟩
end Go.Am
set_option linter.unusedVariables false
set_option linter.unusedSimpArgs false
namespace Go.Am
open Go Go.RowKit Go.Proofs
section
variable (code : List TIns) (H : List Int)
def keepB (i : Nat) : Bool := decide (0 ≤ gI H i) && !decide ((gC code i).fOp = 1)
def kp (k : Nat) : List Int := ((List.range k).filter (keepB code H)).map fun i : Nat => (i : Int)
def tos (k : Nat) : List Int := (List.range k).map fun i => ((kp code H i).length : Int)
theorem kp_succ (k : Nat) : kp code H (k + 1) = if keepB code H k = true then kp code H k ++ [(k : Int)] else kp code H k := by
 unfold kp
 rw [List.range_succ, List.filter_append, List.map_append]
 cases h : keepB code H k
 ·rw [if_neg (by simp)]; simp [h]
 ·rw [if_pos rfl]; simp [h]
theorem tos_succ (k : Nat) : tos code H (k + 1) = tos code H k ++ [((kp code H k).length : Int)] := by
 unfold tos; rw [List.range_succ, List.map_append]; rfl
theorem kp_len (k : Nat) : (kp code H k).length ≤ k := by
 unfold kp
 rw [List.length_map]
 have := List.length_filter_le (keepB code H) (List.range k)
 simpa using this
theorem kp_lt {k : Nat} {x : Int} (h : x ∈ kp code H k) : ∃ i : Nat, x = (i : Int) ∧ i < k := by
 unfold kp at h
 obtain ⟨i, hi, rfl⟩ := List.mem_map.1 h
 exact ⟨i, rfl, List.mem_range.1 (List.mem_filter.1 hi).1⟩
theorem cnt_kp (t : Nat) : ∀ d : Nat, cnt (kp code H (t + d)) (t : Int) = (kp code H t).length
 | 0 => by
  unfold cnt
  exact List.countP_eq_length.2 (fun x hx => by obtain ⟨i, rfl, hi⟩ := kp_lt code H hx; simpa using hi)
 | d + 1 => by
  rw [← Nat.add_assoc, kp_succ]
  split
  ·unfold cnt
   rw [List.countP_append]
   have := cnt_kp t d
   unfold cnt at this
   rw [this]
   simp
   omega
  ·exact cnt_kp t d
theorem gI_tos {k t : Nat} (h : t < k) : gI (tos code H k) t = ((kp code H t).length : Int) := by
 unfold gI tos
 simp [List.getD_eq_getElem?_getD, h]
end
theorem iKept (a : TFunc) (H : List Int) (hn : a.fCode.length ≤ 2000000) (hH : H.length = a.fCode.length) : ∀ (f k : Nat), a.fCode.length ≤ k + f → k ≤ a.fCode.length → m_i_DropCode_L2 a H (kp a.fCode H k) (k : Int) = some (kp a.fCode H a.fCode.length)
 | f, k, hf, hk => by
  rw [m_i_DropCode_L2]
  by_cases hc : k < a.fCode.length
  ·obtain ⟨g, rfl⟩ : ∃ g, f = g + 1 := ⟨f - 1, by omega⟩
   have ih := iKept a H hn hH g (k + 1) (by omega) (by omega)
   have hl := kp_len a.fCode H k
   rw [kp_succ] at ih
   unfold keepB at ih
   rw [if_pos (by omega), idx_gC hc, sb, idx_gI (by omega), sb, w_succ (by omega)]
   by_cases h1 : 0 ≤ gI H k
   ·rw [if_pos (show gI H k ≥ 0 from h1)]
    by_cases h2 : (gC a.fCode k).fOp = 1
    ·rw [if_pos h2]
     rw [if_neg (by simp [h2])] at ih
     exact ih
    ·rw [if_neg h2, lapp_eq (by simp; omega), sb]
     rw [if_pos (by simp [h1, h2])] at ih
     exact ih
   ·rw [if_neg (show ¬ gI H k ≥ 0 from h1)]
    rw [if_neg (by simp [h1])] at ih
    exact ih
  ·have : k = a.fCode.length := by omega
   subst this
   rw [if_neg (by omega)]
theorem sKeptL (a : TFunc) (H : List Int) (hn : a.fCode.length ≤ 2000000) (hH : H.length = a.fCode.length) : ∀ (f k : Nat), a.fCode.length ≤ k + f → k ≤ a.fCode.length →
  m_s_DropCode_L2 a H (kp a.fCode H k) (tos a.fCode H k) (k : Int) = some (kp a.fCode H a.fCode.length, tos a.fCode H a.fCode.length)
 | f, k, hf, hk => by
  rw [m_s_DropCode_L2]
  by_cases hc : k < a.fCode.length
  ·obtain ⟨g, rfl⟩ : ∃ g, f = g + 1 := ⟨f - 1, by omega⟩
   have ih := sKeptL a H hn hH g (k + 1) (by omega) (by omega)
   have hl := kp_len a.fCode H k
   have ht : (tos a.fCode H k).length = k := by simp [tos]
   rw [kp_succ, tos_succ] at ih
   unfold keepB at ih
   rw [if_pos (by omega), lapp_eq (by simp; omega), sb, idx_gI (by omega), sb, w_succ (by omega)]
   by_cases h1 : 0 ≤ gI H k
   ·rw [if_pos (show gI H k ≥ 0 from h1), idx_gC hc, sb]
    by_cases h2 : (gC a.fCode k).fOp = 1
    ·rw [if_pos h2]
     rw [if_neg (by simp [h2])] at ih
     exact ih
    ·rw [if_neg h2, lapp_eq (by simp; omega), sb]
     rw [if_pos (by simp [h1, h2])] at ih
     exact ih
   ·rw [if_neg (show ¬ gI H k ≥ 0 from h1)]
    rw [if_neg (by simp [h1])] at ih
    exact ih
  ·have : k = a.fCode.length := by omega
   subst this
   rw [if_neg (by omega)]
theorem app_go {α : Type} (K : List Int) (g : Int → α) (L : List α → Int → Option (List α)) (hs : ∀ (l : List α) (k : Nat) (h : k < K.length), l.length = k → L l (k : Int) = L (l ++ [g K[k]]) ((k + 1 : Nat) : Int))
  (he : ∀ l : List α, L l (K.length : Int) = some l) : L [] 0 = some (K.map g) := by
 suffices h : ∀ (f k : Nat), K.length ≤ k + f → k ≤ K.length → L ((K.take k).map g) (k : Int) = some (K.map g) by
  have := h K.length 0 (by omega) (by omega)
  simpa using this
 intro f
 induction f with
 | zero =>
  intro k hf hk
  have : k = K.length := by omega
  subst this
  rw [he, List.take_length]
 | succ f ih =>
  intro k hf hk
  by_cases hc : k < K.length
  ·rw [hs _ k hc (by simp; omega), ← ih (k + 1) (by omega) (by omega), ← List.take_append_getElem hc, List.map_append]
   rfl
  ·have : k = K.length := by omega
   subst this
   rw [he, List.take_length]
theorem iDrop (a : TFunc) (H : List Int) (ha : Fits a) : m_i_DropCode_L4 a (kp a.fCode H a.fCode.length) [] 0 = some ((kp a.fCode H a.fCode.length).map fun k => mv (gC a.fCode k.toNat) (kp a.fCode H a.fCode.length)) := by
 have hc := ha.code
 have hl := kp_len a.fCode H a.fCode.length
 refine app_go _ _ _ (fun l k hk hl2 => ?_) (fun l => by rw [m_i_DropCode_L4, if_neg (by omega)])
 obtain ⟨i, ei, hi⟩ := kp_lt a.fCode H (List.getElem_mem hk)
 rw [m_i_DropCode_L4, if_pos (by omega), idx_nat hk, sb, ei, idx_gC hi, sb, moved_eq _ _ (by omega), sb, lapp_eq (by simp; omega), sb, w_succ (by omega), Int.toNat_natCast]
theorem sDrop (a : TFunc) (H : List Int) (ha : Fits a) (hA : ∀ i (hi : i < a.fCode.length), tgt (a.fCode[i]).fOp = true → 0 ≤ (a.fCode[i]).fA ∧ (a.fCode[i]).fA < a.fCode.length) : m_s_DropCode_L4 a (kp a.fCode H a.fCode.length) (tos a.fCode H a.fCode.length) [] 0 = some ((kp a.fCode H a.fCode.length).map fun k => mv (gC a.fCode k.toNat) (kp a.fCode H a.fCode.length)) := by
 have hc := ha.code
 have hl := kp_len a.fCode H a.fCode.length
 refine app_go _ _ _ (fun l k hk hl2 => ?_) (fun l => by rw [m_s_DropCode_L4, if_neg (by omega)])
 obtain ⟨i, ei, hi⟩ := kp_lt a.fCode H (List.getElem_mem hk)
 have hT := hA i hi
 rw [← gC_at hi] at hT
 rw [m_s_DropCode_L4, if_pos (by omega), idx_nat hk, sb, ei, idx_gC hi, sb, sTgt, sb, w_succ (by omega), Int.toNat_natCast]
 unfold mv
 generalize gC a.fCode i = x at hT ⊢
 cases ht : tgt x.fOp
 ·rw [if_neg (by simp), lapp_eq (by simp; omega), sb, if_neg (by simp)]
 ·have hT := hT ht
  obtain ⟨t, h4⟩ : ∃ t : Nat, x.fA = (t : Int) := ⟨x.fA.toNat, by omega⟩
  have e : cnt (kp a.fCode H a.fCode.length) (t : Int) = (kp a.fCode H t).length := by
   have := cnt_kp a.fCode H t (a.fCode.length - t)
   rwa [show t + (a.fCode.length - t) = a.fCode.length by omega] at this
  rw [if_pos rfl, h4, idx_gI (by simp [tos]; omega), sb, gI_tos a.fCode H (by omega), lapp_eq (by simp; omega), sb, if_pos rfl, e]
theorem drop_code (a : TFunc) (ha : Fits a) : ∃ w K, m_i_DropCode a = some (w, K) ∧ m_s_DropCode a = some (w, K) ∧ Fits w ∧ K.length ≤ 2000000 := by
 unfold m_i_DropCode m_s_DropCode
 obtain ⟨v1, i1, s1, f1⟩ := isFunc_fits a ha
 obtain ⟨l, b, i2, s2, _⟩ := heights a ha.code
 rw [iCopy_eq a ha, sCopy_eq a ha, i1, s1, sb, s2]
 have hc := ha.code
 cases v1
 ·simp only [sb]
  rw [if_neg (by simp)]
  cases b
  ·exact ⟨_, _, rfl, rfl, ha, by simp⟩
  ·exact ⟨_, _, rfl, rfl, ha, by simp⟩
 ·obtain ⟨H, eH, sH, hH, hA⟩ := f1 rfl
  rw [s2] at sH
  injection sH with sH
  injection sH with q1 q2
  subst q1 q2
  have k1 := iKept a l hc hH a.fCode.length 0 (by omega) (by omega)
  have k2 := sKeptL a l hc hH a.fCode.length 0 (by omega) (by omega)
  have z1 : kp a.fCode l 0 = [] := rfl
  have z2 : tos a.fCode l 0 = [] := rfl
  rw [z1, show ((0 : Nat) : Int) = 0 from rfl] at k1
  rw [z1, z2, show ((0 : Nat) : Int) = 0 from rfl] at k2
  simp only [sb, i2, if_true, k1, k2, iDrop a l ha, sDrop a l ha hA]
  have hl := kp_len a.fCode l a.fCode.length
  exact ⟨_, _, rfl, rfl, ⟨by simp; omega, ha.slots, ha.params, ha.uses, ha.name⟩, by omega⟩
end Go.Am
