/- The plain law, eighth part: both accept the same functions. -/
import Derived.Test.YtnehfdofoemnfaaP7
set_option linter.unusedVariables false
set_option linter.unusedSimpArgs false
namespace Go.Am
open Go Go.RowKit Go.Proofs
def namC (a0 : TFunc) (k : Nat) : Bool := slotC a0.fSlots k && (!decide (k < a0.fParams.length) || decide ((gP a0.fParams k).fName = gS a0.fSlots k)) &&
 (!decide (a0.fParams.length ≤ k ∧ k - a0.fParams.length < a0.fUses.length) || decide ((gP a0.fUses (k - a0.fParams.length)).fName = gS a0.fSlots k))
theorem sNames (a0 : TFunc) (hn : a0.fSlots.length ≤ 2000000) (hp : a0.fParams.length ≤ 2000000) (hu : a0.fUses.length ≤ 2000000) : m_s_l27Names_L2 a0 0 = some (if allN (namC a0) 0 a0.fSlots.length = true then .inl () else .inr false) := by
 refine loop_all0 (L := m_s_l27Names_L2 a0) _ _ (fun k hk => ?_) (by rw [m_s_l27Names_L2, if_neg (by omega)])
 obtain ⟨v, ev, hv⟩ := slotOf_eq a0 hn hk
 have key : m_s_l27Names_L2 a0 (k : Int) = if namC a0 k = true then m_s_l27Names_L2 a0 ((k + 1 : Nat) : Int) else some (.inr false) := by
  rw [m_s_l27Names_L2, if_pos (by omega), idx_gS hk, sb, sGood, sb, w_succ (by omega)]
  unfold namC slotC
  cases hg : good (gS a0.fSlots k)
  ·rw [if_neg (by simp)]; simp
  rw [if_pos rfl]
  by_cases ht : gS a0.fSlots k = this4
  ·have : gS a0.fSlots k = ([116, 104, 105, 115] : Str) := ht
   rw [if_pos this]; simp [ht]
  have ht' : ¬ gS a0.fSlots k = ([116, 104, 105, 115] : Str) := ht
  rw [if_neg ht', ev, sb, decide_eq_false ht]
  cases hs : seenB a0.fSlots k
  ·rw [if_pos (hv.2 hs)]
   by_cases h1 : k < a0.fParams.length
   ·rw [if_pos (show (k : Int) < (a0.fParams.length : Int) by omega), idx_gP h1, sb, decide_eq_true h1]
    rw [decide_eq_false (show ¬ (a0.fParams.length ≤ k ∧ k - a0.fParams.length < a0.fUses.length) by omega)]
    by_cases h2 : (gP a0.fParams k).fName = gS a0.fSlots k
    ·rw [if_pos h2, if_neg (by omega), decide_eq_true h2]; rfl
    ·rw [if_neg h2, decide_eq_false h2]; rfl
   ·rw [if_neg (show ¬ (k : Int) < (a0.fParams.length : Int) by omega), if_pos (show (k : Int) ≥ (a0.fParams.length : Int) by omega), decide_eq_false h1]
    rw [w_nat (x := (k : Int) - (a0.fParams.length : Int)) (n := k - a0.fParams.length) (by omega) (by omega)]
    by_cases h3 : k - a0.fParams.length < a0.fUses.length
    ·rw [if_pos (by omega), idx_gP h3, sb, decide_eq_true (show a0.fParams.length ≤ k ∧ k - a0.fParams.length < a0.fUses.length from ⟨by omega, h3⟩)]
     by_cases h2 : (gP a0.fUses (k - a0.fParams.length)).fName = gS a0.fSlots k
     ·rw [if_pos h2, decide_eq_true h2]; rfl
     ·rw [if_neg h2, decide_eq_false h2]; rfl
    ·rw [if_neg (by omega), decide_eq_false (show ¬ (a0.fParams.length ≤ k ∧ k - a0.fParams.length < a0.fUses.length) by omega)]; rfl
  ·rw [if_neg (fun h => by rw [hv.1 h] at hs; cases hs)]; rfl
 exact ⟨fun h => by rw [key, if_pos h], fun h => by rw [key, if_neg (by rw [h]; simp)]⟩
theorem gP_app (a b : List TParam) (k : Nat) : gP (a ++ b) k = if k < a.length then gP a k else gP b (k - a.length) := by
 unfold gP
 rw [List.getD_eq_getElem?_getD, List.getD_eq_getElem?_getD, List.getD_eq_getElem?_getD]
 by_cases h : k < a.length
 ·rw [if_pos h, List.getElem?_append_left h]
 ·rw [if_neg h, List.getElem?_append_right (by omega)]
theorem names_eq (a0 : TFunc) (hp : a0.fParams.length + a0.fUses.length ≤ a0.fSlots.length) :
  allN (namC a0) 0 a0.fSlots.length = (allN (slotC a0.fSlots) 0 a0.fSlots.length && allN (fun k => decide (gS a0.fSlots k = (gP (a0.fParams ++ a0.fUses) k).fName)) 0 (a0.fParams ++ a0.fUses).length) := by
 rw [Bool.eq_iff_iff, Bool.and_eq_true, allN_iff, allN_iff, allN_iff]
 constructor
 ·intro h
  refine ⟨fun i h1 h2 => ?_, fun i h1 h2 => ?_⟩
  ·have := h i h1 h2
   unfold namC at this
   simp only [Bool.and_eq_true] at this
   exact this.1.1
  ·rw [List.length_append] at h2
   have := h i h1 (by omega)
   unfold namC at this
   simp only [Bool.and_eq_true, Bool.or_eq_true, Bool.not_eq_true', decide_eq_false_iff_not, decide_eq_true_eq] at this
   rw [gP_app, decide_eq_true_eq]
   by_cases hc : i < a0.fParams.length
   ·rw [if_pos hc]
    exact (this.1.2.resolve_left (fun q => q hc)).symm
   ·rw [if_neg hc]
    exact (this.2.resolve_left (fun q => q ⟨by omega, by omega⟩)).symm
 ·rintro ⟨h1, h2⟩ i h3 h4
  unfold namC
  simp only [Bool.and_eq_true, Bool.or_eq_true, Bool.not_eq_true', decide_eq_false_iff_not, decide_eq_true_eq]
  refine ⟨⟨h1 i h3 h4, ?_⟩, ?_⟩
  ·by_cases hc : i < a0.fParams.length
   ·right
    have := h2 i h3 (by rw [List.length_append]; omega)
    rw [gP_app, decide_eq_true_eq, if_pos hc] at this
    exact this.symm
   ·exact .inl hc
  ·by_cases hc : a0.fParams.length ≤ i ∧ i - a0.fParams.length < a0.fUses.length
   ·right
    have := h2 i h3 (by rw [List.length_append]; omega)
    rw [gP_app, decide_eq_true_eq, if_neg (by omega)] at this
    exact this.symm
   ·exact .inl hc
theorem top_eq (a0 : TFunc) : ∃ b, m_i_isFile a0 = some b ∧ m_s_l25Top a0 = some b := by
 unfold m_i_isFile m_stringsHasPrefix m_internalstringsliteHasPrefix m_s_l25Top
 cases hs : a0.fName with
 | nil => exact ⟨false, rfl, rfl⟩
 | cons c r =>
  have e1 : sto (c :: r) (([47] : Str).length : Int) = some [c] := by
   unfold sto
   rw [if_pos ⟨by simp, by simp; omega⟩]; rfl
  have e2 : sidx (c :: r) 0 = some c := by
   have := sidx_nat (s := c :: r) (i := 0) (by simp)
   exact this
  rw [if_pos (by simp; omega), e1, sb, sb, sb, if_pos (by simp), e2, sb]
  refine ⟨_, rfl, ?_⟩
  congr 1
  rw [Bool.eq_iff_iff, beq_iff_eq, beq_iff_eq]
  constructor
  ·intro h
   have : c = 47 := by
    apply UInt8.toNat_inj.1
    show c.toNat = 47
    omega
   rw [this]
  ·intro h
   injection h with h _
   rw [h]; rfl
theorem isFunc_eq (a0 : TFunc) (hc : a0.fCode.length ≤ 2000000) (hs : a0.fSlots.length ≤ 2000000) (hp : a0.fParams.length ≤ 2000000) (hu : a0.fUses.length ≤ 2000000) (hnm : a0.fName.length ≤ 2000000) :
  ∃ b, m_i_IsFunc a0 = some b ∧ m_s_IsFunc a0 = some b ∧ (b = true → ∃ l, m_i_HeightsOf a0 = some (l, true) ∧ m_s_HeightsOf a0 = some (l, true) ∧ l.length = a0.fCode.length ∧
   (∀ i (hi : i < a0.fCode.length), tgt (a0.fCode[i]).fOp = true → 0 ≤ (a0.fCode[i]).fA ∧ (a0.fCode[i]).fA < a0.fCode.length)) := by
 unfold m_i_IsFunc m_s_IsFunc m_s_l27Names
 obtain ⟨l, b, e1, e2, hb1, hb2⟩ := heights a0 hc
 obtain ⟨tb, t1, t2⟩ := top_eq a0
 rw [range_eq, sb, l1In_eq, sb]
 by_cases h1 : (1 : Int) ≤ (a0.fName.length : Int) ∧ (a0.fName.length : Int) ≤ 100
 case neg =>
  have hd : ¬ decide ((1 : Int) ≤ (a0.fName.length : Int) ∧ (a0.fName.length : Int) ≤ 100) = true := by simpa using h1
  rw [if_neg hd, if_neg hd]
  exact ⟨_, rfl, rfl, fun h => by cases h⟩
 have hd : decide ((1 : Int) ≤ (a0.fName.length : Int) ∧ (a0.fName.length : Int) ≤ 100) = true := by simpa using h1
 rw [if_pos hd, if_pos hd]
 by_cases h2 : (a0.fSlots.length : Int) > 600
 ·rw [if_pos h2]
  refine ⟨false, rfl, ?_, fun h => by cases h⟩
  by_cases h3 : (a0.fCode.length : Int) > 8000
  ·rw [if_pos h3]; rfl
  ·rw [if_neg h3, if_pos h2]; rfl
 rw [if_neg h2, if_neg h2]
 by_cases h3 : (a0.fCode.length : Int) > 8000
 ·rw [if_pos h3, if_pos h3]
  exact ⟨false, rfl, rfl, fun h => by cases h⟩
 rw [if_neg h3, if_neg h3]
 have ew : W64 ((a0.fParams.length : Int) + (a0.fUses.length : Int)) = ((a0.fParams.length + a0.fUses.length : Nat) : Int) := w_nat (by omega) (by omega)
 rw [ew]
 by_cases h4 : ((a0.fParams.length + a0.fUses.length : Nat) : Int) > (a0.fSlots.length : Int)
 ·rw [if_pos h4, if_pos h4]
  exact ⟨false, rfl, rfl, fun h => by cases h⟩
 rw [if_neg h4, if_neg h4, iSlots a0 hs, sNames a0 hs hp hu, names_eq a0 (by omega)]
 have eC : m_CloneP a0.fParams = some a0.fParams := by
  unfold m_CloneP
  rw [lapp_eq (by simp; omega), sb, List.nil_append]
 have eA : lapp 24 a0.fParams a0.fUses = some (a0.fParams ++ a0.fUses) := lapp_eq (by omega)
 have eP : (some a0.fParams >>= fun v28 => lapp 24 v28 a0.fUses >>= fun l30 => m_i_IsFunc_L4 a0 l30 0) = some (if allN (fun k => decide (gS a0.fSlots k = (gP (a0.fParams ++ a0.fUses) k).fName)) 0 (a0.fParams ++ a0.fUses).length = true then .inl () else .inr false) := by
  rw [sb, eA, sb, iParams a0 _ (by rw [List.length_append]; omega) hs]
 rw [eC, eP, iYield a0 hc, sYield a0 hc, t1, t2, e1, e2]
 generalize allN (slotC a0.fSlots) 0 a0.fSlots.length = A
 generalize allN (fun k => decide (gS a0.fSlots k = (gP (a0.fParams ++ a0.fUses) k).fName)) 0 (a0.fParams ++ a0.fUses).length = B
 generalize allN (yldC a0) 0 a0.fCode.length = Y
 cases A
 ·exact ⟨false, rfl, rfl, fun h => by cases h⟩
 cases B
 ·exact ⟨false, rfl, rfl, fun h => by cases h⟩
 cases Y
 ·refine ⟨false, rfl, ?_, fun h => by cases h⟩
  cases tb
  ·rfl
  ·by_cases h5 : 0 < a0.fSlots.length
   ·simp [sb, h5]
   ·cases hg : a0.fGen <;> simp [sb, h5, hg]
 have fin3 : b = true → ∃ l_1, some (l, b) = some (l_1, true) ∧ some (l, b) = some (l_1, true) ∧ l_1.length = a0.fCode.length ∧
   (∀ i (hi : i < a0.fCode.length), tgt (a0.fCode[i]).fOp = true → 0 ≤ (a0.fCode[i]).fA ∧ (a0.fCode[i]).fA < a0.fCode.length) := fun h => by
  subst h
  exact ⟨l, rfl, rfl, (hb2 rfl).1, (hb2 rfl).2⟩
 cases tb
 ·exact ⟨b, rfl, rfl, fin3⟩
 ·by_cases h5 : 0 < a0.fSlots.length
  ·refine ⟨false, ?_, ?_, fun h => by cases h⟩ <;> simp [sb, h5]
  ·cases hg : a0.fGen
   ·refine ⟨b, ?_, ?_, fin3⟩ <;> simp [sb, h5, hg]
   ·refine ⟨false, ?_, ?_, fun h => by cases h⟩ <;> simp [sb, h5, hg]
end Go.Am
