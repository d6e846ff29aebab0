/- The plain law, sixth part: both find the same heights. -/
import Derived.Test.YtnehfdofoemnfaaP5
set_option linter.unusedVariables false
set_option linter.unusedSimpArgs false
namespace Go.Am
open Go Go.RowKit Go.Proofs
def insB (x : TIns) (a b : Int) : Bool := (m_i_IsIns x a b).getD false
theorem iIns (x : TIns) (a b : Int) : m_i_IsIns x a b = some (insB x a b) := by obtain ⟨v, h, _⟩ := isIns_eq x a b; rw [insB, h]; rfl
theorem sIns (x : TIns) (a b : Int) : m_s_IsIns x a b = some (insB x a b) := by obtain ⟨v, h, h2⟩ := isIns_eq x a b; rw [insB, h, h2]; rfl
theorem tgt_cases {n : Int} (h : tgt n = true) : n = 27 ∨ n = 28 ∨ n = 29 ∨ n = 44 ∨ n = 45 ∨ n = 49 ∨ n = 52 := by
 unfold tgt m_i_HasTarget at h
 by_cases h1 : n = 27
 ·exact .inl h1
 by_cases h2 : n = 28
 ·exact .inr (.inl h2)
 by_cases h3 : n = 29
 ·exact .inr (.inr (.inl h3))
 by_cases h4 : n = 44
 ·exact .inr (.inr (.inr (.inl h4)))
 by_cases h5 : n = 45
 ·exact .inr (.inr (.inr (.inr (.inl h5))))
 by_cases h6 : n = 49
 ·exact .inr (.inr (.inr (.inr (.inr (.inl h6)))))
 by_cases h7 : n = 52
 ·exact .inr (.inr (.inr (.inr (.inr (.inr h7)))))
 rw [if_neg h1, if_neg h2, if_neg h3, if_neg h4, if_neg h5, if_neg h6, if_neg h7] at h
 cases h
theorem ins_tgt {x : TIns} {a b : Int} (h : insB x a b = true) (ht : tgt x.fOp = true) : 0 ≤ x.fA ∧ x.fA < b := by
 have h1 : m_i_IsIns x a b = some true := by rw [iIns, h]
 unfold m_i_IsIns at h1
 obtain ⟨v1, _, h1⟩ := bind_some h1
 by_cases hv : v1 = true
 ·rw [if_pos hv] at h1
  obtain ⟨v4, h4, h1⟩ := bind_some h1
  by_cases hv4 : v4 = true
  ·subst hv4
   obtain ⟨n, A, B, S, T⟩ := x
   have ht : tgt n = true := ht
   show 0 ≤ A ∧ A < b
   rcases tgt_cases ht with rfl | rfl | rfl | rfl | rfl | rfl | rfl <;>
    ·simp [m_i_operandA, m_i_slotOp, m_i_HasTarget, sb] at h4
     by_cases hA : 0 ≤ A
     ·rw [if_pos hA] at h4
      exact ⟨hA, by simpa using h4⟩
     ·rw [if_neg hA] at h4; cases h4
  ·rw [if_neg hv4] at h1; cases h1
 ·rw [if_neg hv] at h1; cases h1
theorem gI_rep {n i : Nat} (h : i < n) : gI (List.replicate n (-1)) i = -1 := by
 rw [gI_at (by simpa using h)]; simp
theorem iFill (a0 : TFunc) (hn : a0.fCode.length ≤ 2000000) : ∀ (f k : Nat) (l : List Int), a0.fCode.length ≤ k + f → k ≤ a0.fCode.length → l.length = a0.fCode.length → (∀ j, j < k → gI l j = -1) →
  m_i_HeightsOf_L2 a0 l (k : Int) = some (if (a0.fCode.drop k).all (fun x => insB x (a0.fSlots.length : Int) (a0.fCode.length : Int)) then .inl (List.replicate a0.fCode.length (-1)) else .inr ([], false))
 | f, k, l, hf, hk, hl, hj => by
  rw [m_i_HeightsOf_L2]
  by_cases hc : k < a0.fCode.length
  ·rw [if_pos (by omega), idx_nat hc, sb, iIns, sb, List.drop_eq_getElem_cons hc, List.all_cons]
   obtain ⟨g, rfl⟩ : ∃ g, f = g + 1 := ⟨f - 1, by omega⟩
   cases hb : insB a0.fCode[k] (a0.fSlots.length : Int) (a0.fCode.length : Int)
   ·rw [if_neg (by simp), Bool.false_and, if_neg (by simp)]
   ·rw [if_pos rfl, idx_gI (by omega), sb, w_succ (by omega), Bool.true_and]
    exact iFill a0 hn g (k + 1) _ (by omega) (by omega) (by rw [List.length_set]; exact hl) (fun j h => by
     rw [gI_set]
     by_cases he : (k : Int).toNat = j ∧ (k : Int).toNat < l.length
     ·rw [if_pos he]
     ·rw [if_neg he]
      exact hj j (by simp at he; omega))
  ·rw [if_neg (by omega), List.drop_eq_nil_of_le (by omega)]
   have : l = List.replicate a0.fCode.length (-1) := List.ext_getElem (by simp [hl]) fun i h1 h2 => by
    rw [← gI_at h1, hj i (by omega)]; simp
   rw [this]; rfl
theorem sFill (a0 : TFunc) (hn : a0.fCode.length ≤ 2000000) : ∀ (f k : Nat), a0.fCode.length ≤ k + f → k ≤ a0.fCode.length →
  m_s_HeightsOf_L2 a0 (List.replicate k (-1)) (k : Int) = some (if (a0.fCode.drop k).all (fun x => insB x (a0.fSlots.length : Int) (a0.fCode.length : Int)) then .inl (List.replicate a0.fCode.length (-1)) else .inr ([], false))
 | f, k, hf, hk => by
  rw [m_s_HeightsOf_L2]
  by_cases hc : k < a0.fCode.length
  ·rw [if_pos (by omega), idx_nat hc, sb, sIns, sb, List.drop_eq_getElem_cons hc, List.all_cons]
   obtain ⟨g, rfl⟩ : ∃ g, f = g + 1 := ⟨f - 1, by omega⟩
   cases hb : insB a0.fCode[k] (a0.fSlots.length : Int) (a0.fCode.length : Int)
   ·rw [if_neg (by simp), Bool.false_and, if_neg (by simp)]
   ·rw [if_pos rfl, lapp_eq (by simp; omega), sb, w_succ (by omega), Bool.true_and]
    have e : List.replicate k (-1 : Int) ++ [-1] = List.replicate (k + 1) (-1) := by rw [List.replicate_succ']
    rw [e]
    exact sFill a0 hn g (k + 1) (by omega) (by omega)
  ·have : k = a0.fCode.length := by omega
   rw [if_neg (by omega), List.drop_eq_nil_of_le (by omega), this]; rfl
theorem start_part (code : List TIns) (h0 : 0 < code.length) : Part code ((List.replicate code.length (-1)).set 0 0) := by
 have g : ∀ i, i < code.length → gI ((List.replicate code.length (-1)).set 0 0) i = if i = 0 then 0 else -1 := fun i hi => by
  rw [gI_set]
  by_cases h : i = 0
  ·subst h; rw [if_pos ⟨rfl, by simpa using h0⟩, if_pos rfl]
  ·rw [if_neg (fun q => h q.1.symm), if_neg h, gI_rep hi]
 refine ⟨by simp, fun i hi => ?_, fun _ => by rw [g 0 h0]; rfl, fun i hi => ?_⟩
 ·rw [g i hi]
  by_cases h : i = 0
  ·subst h; rw [if_pos rfl]; exact .inr ⟨Int.le_refl _, .zero⟩
  ·rw [if_neg h]; exact .inl rfl
 ·rw [g i hi]
  by_cases h : i = 0
  ·rw [if_pos h]; omega
  ·rw [if_neg h]; omega
theorem heights (a0 : TFunc) (hn : a0.fCode.length ≤ 2000000) : ∃ l b, m_i_HeightsOf a0 = some (l, b) ∧ m_s_HeightsOf a0 = some (l, b) ∧ (b = false → l = []) ∧
  (b = true → l.length = a0.fCode.length ∧ ∀ i (hi : i < a0.fCode.length), tgt (a0.fCode[i]).fOp = true → 0 ≤ (a0.fCode[i]).fA ∧ (a0.fCode[i]).fA < a0.fCode.length) := by
 unfold m_i_HeightsOf m_s_HeightsOf
 have es := sFill a0 hn a0.fCode.length 0 (by omega) (by omega)
 rw [show ((0 : Nat) : Int) = 0 from rfl, List.replicate_zero] at es
 rw [es]
 by_cases h0 : a0.fCode.length = 0
 ·have hd : a0.fCode = [] := List.eq_nil_of_length_eq_zero h0
  rw [if_pos (by omega)]
  refine ⟨_, _, rfl, ?_, fun _ => rfl, fun h => by cases h⟩
  rw [hd]; rfl
 ·rw [if_neg (by omega)]
  have em : (lmake 8 (a0.fCode.length : Int) (a0.fCode.length : Int) : Option (List Int)) = some (List.replicate a0.fCode.length default) := by
   unfold lmake
   rw [if_pos ⟨by omega, by omega, by omega, by omega⟩]; rfl
  have ei := iFill a0 hn a0.fCode.length 0 (List.replicate a0.fCode.length default) (by omega) (by omega) (by simp) (fun j h => absurd h (by omega))
  rw [show ((0 : Nat) : Int) = 0 from rfl] at ei
  rw [em, sb, ei, List.drop_zero]
  cases hall : a0.fCode.all (fun x => insB x (a0.fSlots.length : Int) (a0.fCode.length : Int))
  ·refine ⟨_, _, rfl, rfl, fun _ => rfl, fun h => by cases h⟩
  ·have hA : ∀ i (hi : i < a0.fCode.length), tgt (a0.fCode[i]).fOp = true → 0 ≤ (a0.fCode[i]).fA ∧ (a0.fCode[i]).fA < a0.fCode.length := fun i hi ht =>
    ins_tgt (List.all_eq_true.1 hall _ (List.getElem_mem hi)) ht
   have hp := start_part a0.fCode (by omega)
   rw [if_pos rfl, sb, sb]
   dsimp only
   have hz : idx (List.replicate a0.fCode.length (-1)) 0 = some (-1) := by
    have := idx_nat (l := List.replicate a0.fCode.length (-1 : Int)) (i := 0) (by simp; omega)
    rw [show ((0 : Nat) : Int) = 0 from rfl] at this
    rw [this]; simp
   rw [hz, sb, sb, if_neg (by rw [List.length_replicate]; omega)]
   show ∃ l b, (m_i_HeightsOf_L4 a0 ((List.replicate a0.fCode.length (-1)).set 0 0) [0] >>= _) = _ ∧ _
   obtain ⟨o, e1, h1⟩ := iLoop a0 hn (fun i hi ht => (hA i hi ht).1) 10000000 ((List.replicate a0.fCode.length (-1)).set 0 0) [0] (by have := neg_le ((List.replicate a0.fCode.length (-1)).set 0 0); simp at this ⊢; omega) (by omega)
    ⟨hp, fun x hx => ⟨0, by simpa using hx, by omega, by rw [hp.zero (by omega)]; exact Int.le_refl _⟩, fun i hi h => .inl (by
     rcases Nat.eq_zero_or_pos i with rfl | hpos
     ·simp
     ·exfalso
      rw [gI_set, if_neg (fun q => by omega), gI_rep hi] at h
      omega)⟩
   obtain ⟨o', e2, h2⟩ := sLoop a0 hn (fun i hi ht => (hA i hi ht).1) _ ((List.replicate a0.fCode.length (-1)).set 0 0) (Nat.le_refl _) hp
   have e2' : m_s_HeightsOf_L9 a0 ((List.replicate a0.fCode.length (-1)).set (0 : Int).toNat 0) true = some o' := e2
   rw [e1, sb, e2', sb]
   rcases h1 with ⟨rfl, h1⟩ | ⟨out, rfl, p1, d1⟩
   ·rcases h2 with ⟨rfl, h2⟩ | ⟨out', rfl, p2, d2⟩
    ·exact ⟨_, _, rfl, rfl, fun _ => rfl, fun h => by cases h⟩
    ·exact absurd (sol_of a0.fCode p2 d2 (by omega)).1 h1
   ·rcases h2 with ⟨rfl, h2⟩ | ⟨out', rfl, p2, d2⟩
    ·exact absurd (sol_of a0.fCode p1 d1 (by omega)).1 h2
    ·have := Sol.uniq a0.fCode (sol_of a0.fCode p1 d1 (by omega)).2 (sol_of a0.fCode p2 d2 (by omega)).2
     subst this
     exact ⟨_, _, rfl, rfl, (fun h => by cases h), fun _ => ⟨p1.len, hA⟩⟩
end Go.Am
