/- The plain law, first part: names and instructions. -/
import Derived.Test.YtnehfdofoemnfaaA2
set_option linter.unusedVariables false
set_option linter.unusedSimpArgs false
namespace Go.Am
open Go Go.RowKit Go.Proofs
theorem sb {α β : Type} (a : α) (f : α → Option β) : (some a >>= f) = f a := rfl
theorem sidx_nat {s : Str} {i : Nat} (h : i < s.length) : sidx s (i : Int) = some (s.getD i 0) := by
 unfold sidx; rw [if_pos ⟨by omega, by omega⟩]; rfl
theorem idx_nat {α : Type} [Inhabited α] {l : List α} {i : Nat} (h : i < l.length) : idx l (i : Int) = some l[i] := by
 unfold idx; rw [if_pos ⟨by omega, by omega⟩]
 simp [List.getD_eq_getElem?_getD, h]
theorem w_nat {x : Int} {n : Nat} (h : x = (n : Int)) (hn : n ≤ 9223372036854775807) : W64 x = (n : Int) := by
 subst h; exact w64 (by omega) (by omega)
theorem w_succ {i : Nat} (h : i < 9223372036854775807) : W64 ((i : Int) + 1) = ((i + 1 : Nat) : Int) := w_nat (by omega) (by omega)
theorem lapp_eq {α : Type} {b : Nat} {l m : List α} (h : (l.length + m.length) * b ≤ 140737488355328) : lapp b l m = some (l ++ m) := if_pos h
theorem range_eq (a b c : Int) : m_i_InRange a b c = some (decide (b ≤ a ∧ a ≤ c)) := by
 unfold m_i_InRange
 by_cases h : b ≤ a
 ·rw [if_pos h]; congr 1; simp; omega
 ·rw [if_neg h]; congr 1; symm; rw [decide_eq_false_iff_not]; omega
theorem l1In_eq (a b c : Int) : m_s_l1In a b c = some (decide (b ≤ a ∧ a ≤ c)) := by
 unfold m_s_l1In
 by_cases h : a ≥ b
 ·rw [if_pos h]; congr 1; simp; omega
 ·rw [if_neg h]; congr 1; symm; rw [decide_eq_false_iff_not]; omega
def isLet (b : UInt8) : Bool := decide (65 ≤ b.toNat ∧ b.toNat ≤ 90) || decide (97 ≤ b.toNat ∧ b.toNat ≤ 122)
def isDig (b : UInt8) : Bool := decide (48 ≤ b.toNat ∧ b.toNat ≤ 57)
theorem let_eq (b : UInt8) : m_i_isLetter (b.toNat : Int) = some (isLet b) := by
 unfold m_i_isLetter isLet
 by_cases h : (b.toNat : Int) ≥ 65
 ·rw [if_pos h]
  by_cases h2 : (b.toNat : Int) ≤ 90
  ·rw [if_pos h2]; congr 1; symm; simp; omega
  ·rw [if_neg h2]
   by_cases h3 : (b.toNat : Int) ≥ 97
   ·rw [if_pos h3]; congr 1; rw [Bool.eq_iff_iff]; simp; omega
   ·rw [if_neg h3]; congr 1; symm; simp; omega
 ·rw [if_neg h, if_neg (by omega)]; congr 1; symm; simp; omega
theorem dig_eq (b : UInt8) : m_i_isDigit (b.toNat : Int) = some (isDig b) := by
 unfold m_i_isDigit isDig
 by_cases h : (b.toNat : Int) ≥ 48
 ·rw [if_pos h]; congr 1; rw [Bool.eq_iff_iff]; simp; omega
 ·rw [if_neg h]; congr 1; symm; simp; omega
theorem wb (b : UInt8) : W64 (b.toNat : Int) = (b.toNat : Int) := by
 have := b.toNat_lt
 exact w64 (by omega) (by omega)
theorem sLet_eq (b : UInt8) : m_s_l14Letter (b.toNat : Int) = some (isLet b || decide (b.toNat = 95)) := by
 unfold m_s_l14Letter isLet
 rw [wb, l1In_eq, sb]
 by_cases h : (97 : Int) ≤ (b.toNat : Int) ∧ (b.toNat : Int) ≤ 122
 ·rw [if_pos (by simp; omega)]; congr 1; symm; simp; omega
 ·rw [if_neg (by simp; omega), l1In_eq, sb]
  by_cases h2 : (65 : Int) ≤ (b.toNat : Int) ∧ (b.toNat : Int) ≤ 90
  ·rw [if_pos (by simp; omega)]; congr 1; symm; simp; omega
  ·rw [if_neg (by simp; omega)]; congr 1; rw [Bool.eq_iff_iff]; simp; omega
theorem sDig_eq (b : UInt8) : m_s_l14Digit (b.toNat : Int) = some (isDig b) := by
 unfold m_s_l14Digit isDig
 rw [wb, l1In_eq, sb]
 congr 1; rw [Bool.eq_iff_iff]; simp; omega
def nameTo (s : Str) : Nat → Nat → Nat
 | 0, i => i
 | f + 1, i => if i < s.length then (if isLet (s.getD i 0) || decide ((s.getD i 0).toNat = 95) || (decide (0 < i) && isDig (s.getD i 0)) then nameTo s f (i + 1) else i) else i
theorem iName_go (s : Str) (hs : s.length < 9223372036854775807) : ∀ (f i : Nat), s.length ≤ i + f → i ≤ s.length → m_i_nameLength_L2 s (i : Int) = some ((nameTo s (f + 1) i : Nat) : Int)
 | f, i, h, hi => by
  rw [m_i_nameLength_L2, nameTo]
  by_cases hc : i < s.length
  ·rw [if_pos (by omega), if_pos hc, sidx_nat hc, sb, let_eq, sb, w_succ (by omega)]
   obtain ⟨g, rfl⟩ : ∃ g, f = g + 1 := ⟨f - 1, by omega⟩
   have ih := iName_go s hs g (i + 1) (by omega) (by omega)
   cases hl : isLet (s.getD i 0)
   ·rw [if_neg (by simp), sb]
    by_cases h5 : (s.getD i 0).toNat = 95
    ·rw [if_pos (by omega), ih, if_pos (by simp only [h5, eq_self, decide_true, Bool.or_true, Bool.true_or])]
    ·rw [if_neg (by omega)]
     by_cases h0 : 0 < i
     ·rw [if_pos (by omega), sb, dig_eq, sb]
      cases hd : isDig (s.getD i 0)
      ·rw [if_neg (by simp), if_neg (by simp only [h5, decide_false, Bool.or_false, Bool.and_false, Bool.false_or]; simp)]
      ·rw [if_pos rfl, ih, if_pos (by simp only [h0, decide_true, Bool.true_and, Bool.or_true])]
     ·rw [if_neg (by omega), if_neg (by simp only [h5, h0, decide_false, Bool.false_and, Bool.or_false]; simp)]
   ·rw [if_pos rfl, ih, if_pos (by simp)]
  ·rw [if_neg (by omega), if_neg hc]
theorem sName_go (s : Str) (hs : s.length < 9223372036854775807) : ∀ (f i : Nat), s.length ≤ i + f → i ≤ s.length → m_s_l14Name_L2 s 0 (i : Int) = some ((nameTo s (f + 1) i : Nat) : Int)
 | f, i, h, hi => by
  rw [m_s_l14Name_L2, nameTo]
  by_cases hc : i < s.length
  ·rw [if_pos (by omega), if_pos hc, sidx_nat hc, sb, sLet_eq, sb, w_succ (by omega)]
   obtain ⟨g, rfl⟩ : ∃ g, f = g + 1 := ⟨f - 1, by omega⟩
   have ih := sName_go s hs g (i + 1) (by omega) (by omega)
   cases hl : (isLet (s.getD i 0) || decide ((s.getD i 0).toNat = 95))
   ·rw [if_neg (by simp)]
    by_cases h0 : 0 < i
    ·rw [if_pos (by omega), sb, sDig_eq, sb]
     cases hd : isDig (s.getD i 0)
     ·rw [if_neg (by simp), if_neg (by simp)]
     ·rw [if_pos rfl, ih, if_pos (by simp [h0])]
    ·rw [if_neg (by omega), if_neg (by simp [h0])]
   ·rw [if_pos rfl, ih, if_pos (by simp)]
  ·rw [if_neg (by omega), if_neg hc]
theorem nameTo_le (s : Str) : ∀ (f i : Nat), i ≤ s.length → nameTo s f i ≤ s.length
 | 0, i, h => h
 | f + 1, i, h => by
  rw [nameTo]
  by_cases hc : i < s.length
  ·rw [if_pos hc]
   split
   ·exact nameTo_le s f (i + 1) (by omega)
   ·omega
  ·rw [if_neg hc]; exact h
theorem isName_eq (s : Str) : ∃ b, m_i_IsName s = some b ∧ m_s_IsName s = some b := by
 unfold m_i_IsName m_s_IsName
 by_cases h : s.length ≤ 20
 ·rw [if_pos (by omega)]
  have e1 : m_i_nameLength s = some ((nameTo s (s.length + 1) 0 : Nat) : Int) := by
   unfold m_i_nameLength
   have := iName_go s (by omega) s.length 0 (by omega) (by omega)
   rw [show ((0 : Nat) : Int) = 0 from rfl] at this
   rw [this, sb]
  have e2 : m_s_l14Name s 0 = some ((nameTo s (s.length + 1) 0 : Nat) : Int) := by
   unfold m_s_l14Name
   have := sName_go s (by omega) s.length 0 (by omega) (by omega)
   rw [show ((0 : Nat) : Int) = 0 from rfl] at this
   rw [this, sb]
  rw [e1, sb, e2]
  cases s with
  | nil => exact ⟨_, rfl, rfl⟩
  | cons c r =>
   rw [if_pos (show ((c :: r).length : Int) ≥ 1 by simp; omega), if_pos (show ((c :: r).length : Int) ≤ 20 by omega), sb]
   by_cases he : nameTo (c :: r) ((c :: r).length + 1) 0 = (c :: r).length
   ·rw [if_pos (by omega)]
    refine ⟨_, rfl, ?_⟩
    congr 1
    simp only [beq_iff_eq, he]
    simp
   ·rw [if_neg (by omega)]
    refine ⟨_, rfl, ?_⟩
    congr 1
    rw [beq_eq_false_iff_ne]
    omega
 ·rw [if_neg (by omega)]
  refine ⟨_, rfl, ?_⟩
  rw [if_pos (by omega), if_neg (by omega)]
end Go.Am
