/- The plain law, third part: what heights are, and one height given. -/
import Derived.Test.YtnehfdofoemnfaaP2
import Derived.Test.YtnehfdofoemnfaaA4b
set_option linter.unusedVariables false
set_option linter.unusedSimpArgs false
namespace Go.Am
open Go Go.RowKit Go.Proofs
def gI (l : List Int) (i : Nat) : Int := l.getD i 0
theorem idx_gI {l : List Int} {i : Nat} (h : i < l.length) : idx l (i : Int) = some (gI l i) := by
 rw [idx_nat h, gI, List.getD_eq_getElem?_getD, List.getElem?_eq_getElem h]; rfl
theorem gI_at {l : List Int} {i : Nat} (h : i < l.length) : gI l i = l[i] := by
 rw [gI, List.getD_eq_getElem?_getD, List.getElem?_eq_getElem h]; rfl
theorem gI_set {l : List Int} {a i : Nat} {b : Int} : gI (l.set a b) i = if a = i ∧ a < l.length then b else gI l i := by
 rw [gI, gI, List.getD_eq_getElem?_getD, List.getD_eq_getElem?_getD, List.getElem?_set]
 by_cases h : a = i
 ·subst h
  rw [if_pos rfl]
  by_cases h2 : a < l.length
  ·rw [if_pos h2, if_pos ⟨rfl, h2⟩]; rfl
  ·rw [if_neg h2, if_neg (fun h => h2 h.2), List.getElem?_eq_none (by omega)]
 ·rw [if_neg h, if_neg (fun h2 => h h2.1)]
def neg (l : List Int) : Nat := l.countP (fun x => decide (x < 0))
theorem neg_le (l : List Int) : neg l ≤ l.length := List.countP_le_length
theorem neg_set {l : List Int} {a : Nat} {b : Int} (ha : a < l.length) (h1 : gI l a < 0) (hb : 0 ≤ b) : neg (l.set a b) + 1 = neg l := by
 rw [gI_at ha] at h1
 have hp : 0 < neg l := List.countP_pos_iff.2 ⟨l[a], List.getElem_mem ha, by simpa using h1⟩
 unfold neg at hp ⊢
 rw [List.countP_set ha, if_pos (by simpa using h1), if_neg (by simp; omega)]
 omega
section
variable (code : List TIns)
inductive R : Nat → Int → Prop
 | zero : R 0 0
 | next {i : Nat} {h : Int} (hr : R i h) (hi : i < code.length) (hf : fin (code[i]).fOp = false) : R (i + 1) (W64 (h + chg code[i]))
 | jump {i : Nat} {h : Int} (hr : R i h) (hi : i < code.length) (ht : tgt (code[i]).fOp = true) : R (code[i]).fA.toNat (W64 (h + tch (code[i]).fOp))
def AllGood : Prop := (∀ i h, R code i h → ∃ hi : i < code.length, 0 ≤ h ∧ h ≤ 500 ∧ need code[i] ≤ h) ∧ ∀ i h h', R code i h → R code i h' → h = h'
def Sol (out : List Int) : Prop := out.length = code.length ∧ ∀ i, i < code.length → (gI out i = -1 ∨ R code i (gI out i)) ∧ ∀ h, R code i h → gI out i = h
theorem Sol.uniq {a b : List Int} (ha : Sol code a) (hb : Sol code b) : a = b := by
 refine List.ext_getElem (ha.1.trans hb.1.symm) fun i h1 h2 => ?_
 have hi : i < code.length := by rw [← ha.1]; exact h1
 rw [← gI_at h1, ← gI_at h2]
 obtain ⟨a1, a2⟩ := ha.2 i hi
 obtain ⟨b1, b2⟩ := hb.2 i hi
 rcases a1 with a1 | a1
 ·rcases b1 with b1 | b1
  ·rw [a1, b1]
  ·exact a2 _ b1
 ·exact (b2 _ a1).symm
structure Part (out : List Int) : Prop where
 len : out.length = code.length
 val : ∀ i, i < code.length → gI out i = -1 ∨ (0 ≤ gI out i ∧ R code i (gI out i))
 zero : 0 < code.length → gI out 0 = 0
 le : ∀ i, i < code.length → gI out i ≤ 500
def Done (out : List Int) (i : Nat) (hi : i < code.length) : Prop :=
 need code[i] ≤ gI out i ∧ gI out i ≤ 500 ∧
 (fin (code[i]).fOp = false → i + 1 < code.length ∧ 0 ≤ gI out (i + 1) ∧ gI out (i + 1) = W64 (gI out i + chg code[i])) ∧
 (tgt (code[i]).fOp = true → (code[i]).fA.toNat < code.length ∧ 0 ≤ gI out (code[i]).fA.toNat ∧ gI out (code[i]).fA.toNat = W64 (gI out i + tch (code[i]).fOp))
def Ext (out out' : List Int) : Prop := out'.length = out.length ∧ ∀ i, 0 ≤ gI out i → gI out' i = gI out i
theorem Ext.refl (out : List Int) : Ext out out := ⟨rfl, fun _ _ => rfl⟩
theorem Ext.trans {a b c : List Int} (h1 : Ext a b) (h2 : Ext b c) : Ext a c := ⟨h2.1.trans h1.1, fun i hi => (h2.2 i (by rw [h1.2 i hi]; exact hi)).trans (h1.2 i hi)⟩
theorem Done.ext {out out' : List Int} {i : Nat} {hi : i < code.length} (h : Done code out i hi) (h0 : 0 ≤ gI out i) (he : Ext out out') : Done code out' i hi := by
 obtain ⟨h1, h2, h3, h4⟩ := h
 have e := he.2 i h0
 refine ⟨by rw [e]; exact h1, by rw [e]; exact h2, fun hf => ?_, fun ht => ?_⟩
 ·obtain ⟨a, b, c⟩ := h3 hf
  rw [e, he.2 _ b]
  exact ⟨a, b, c⟩
 ·obtain ⟨a, b, c⟩ := h4 ht
  rw [e, he.2 _ b]
  exact ⟨a, b, c⟩
theorem sol_of {out : List Int} (hp : Part code out) (hd : ∀ i (hi : i < code.length), 0 ≤ gI out i → Done code out i hi) (h0 : 0 < code.length) : AllGood code ∧ Sol code out := by
 have key : ∀ i h, R code i h → ∃ hi : i < code.length, gI out i = h ∧ 0 ≤ h := fun i h hr => by
  induction hr with
  | zero => exact ⟨h0, hp.zero h0, Int.le_refl _⟩
  | next hr hi hf ih =>
   obtain ⟨_, e, hh⟩ := ih
   obtain ⟨_, _, h3, _⟩ := hd _ hi (by rw [e]; exact hh)
   obtain ⟨a, b, c⟩ := h3 hf
   rw [e] at c
   exact ⟨a, c, by rw [← c]; exact b⟩
  | jump hr hi ht ih =>
   obtain ⟨_, e, hh⟩ := ih
   obtain ⟨_, _, _, h4⟩ := hd _ hi (by rw [e]; exact hh)
   obtain ⟨a, b, c⟩ := h4 ht
   rw [e] at c
   exact ⟨a, c, by rw [← c]; exact b⟩
 refine ⟨⟨fun i h hr => ?_, fun i h h' hr hr' => ?_⟩, hp.len, fun i hi => ⟨(hp.val i hi).imp id (·.2), fun h hr => (key i h hr).2.1⟩⟩
 ·obtain ⟨hi, e, hh⟩ := key i h hr
  obtain ⟨h1, h2, _⟩ := hd i hi (by rw [e]; exact hh)
  rw [e] at h1 h2
  exact ⟨hi, hh, h2, h1⟩
 ·rw [← (key i h hr).2.1, (key i h' hr').2.1]
def Refused (out : List Int) (a : Nat) (b : Int) : Prop := out.length ≤ a ∨ ¬(0 ≤ b ∧ b ≤ 500) ∨ (0 ≤ gI out a ∧ gI out a ≠ b)
instance (out : List Int) (a : Nat) (b : Int) : Decidable (Refused out a b) := by unfold Refused; exact inferInstance
theorem refused_bad {out : List Int} {a : Nat} {b : Int} (hp : Part code out) (hr : R code a b) (h : Refused out a b) : ¬ AllGood code := fun hg => by
 obtain ⟨hi, h1, h2, _⟩ := hg.1 a b hr
 rcases h with h | h | ⟨h, h3⟩
 ·rw [hp.len] at h; omega
 ·exact h ⟨h1, h2⟩
 ·rcases hp.val a hi with q | ⟨_, q⟩
  ·omega
  ·exact h3 (hg.2 a _ _ q hr)
theorem given {out : List Int} {a : Nat} {b : Int} (hp : Part code out) (hr : R code a b) (h : ¬ Refused out a b) : a < code.length ∧ 0 ≤ b ∧ b ≤ 500 ∧ Part code (out.set a b) ∧ Ext out (out.set a b) ∧ gI (out.set a b) a = b ∧
  (∀ i, 0 ≤ gI (out.set a b) i → 0 ≤ gI out i ∨ i = a) ∧ (gI out a < 0 → neg (out.set a b) + 1 = neg out) ∧ (¬ gI out a < 0 → out.set a b = out) := by
 have h1 : ¬ out.length ≤ a := fun x => h (.inl x)
 have h2 : 0 ≤ b ∧ b ≤ 500 := Decidable.not_not.1 (fun x => h (.inr (.inl x)))
 have h3 : 0 ≤ gI out a → gI out a = b := fun x => Decidable.not_not.1 (fun y => h (.inr (.inr ⟨x, y⟩)))
 have hlt : a < out.length := by omega
 have hac : a < code.length := by rw [← hp.len]; exact hlt
 have he : Ext out (out.set a b) := ⟨List.length_set, fun i hi => by
  rw [gI_set]
  by_cases hai : a = i ∧ a < out.length
  ·obtain ⟨rfl, _⟩ := hai
   rw [if_pos ⟨rfl, hlt⟩]
   exact (h3 hi).symm
  ·rw [if_neg hai]⟩
 refine ⟨hac, h2.1, h2.2, ⟨by rw [List.length_set]; exact hp.len, fun i hi => ?_, fun h0 => ?_, fun i hi => ?_⟩, he, by rw [gI_set, if_pos ⟨rfl, hlt⟩], fun i hi => ?_, fun hn => neg_set hlt hn h2.1, fun hn => ?_⟩
 ·rw [gI_set]
  by_cases hai : a = i ∧ a < out.length
  ·obtain ⟨rfl, _⟩ := hai
   rw [if_pos ⟨rfl, hlt⟩]
   exact .inr ⟨h2.1, hr⟩
  ·rw [if_neg hai]; exact hp.val i hi
 ·have := hp.zero h0
  rw [he.2 0 (by omega)]; exact this
 ·rw [gI_set]
  by_cases hai : a = i ∧ a < out.length
  ·rw [if_pos hai]; exact h2.2
  ·rw [if_neg hai]; exact hp.le i hi
 ·rw [gI_set] at hi
  by_cases hai : a = i ∧ a < out.length
  ·exact .inr hai.1.symm
  ·rw [if_neg hai] at hi; exact .inl hi
 ·have : gI out a = b := h3 (by omega)
  rw [← this, gI_at hlt]
  exact List.set_getElem_self hlt
end
theorem sGive {out : List Int} (a : Nat) (b : Int) : m_s_l27Give out (a : Int) b = some (if Refused out a b then (false, false, out) else (decide (gI out a < 0), true, out.set a b)) := by
 unfold m_s_l27Give
 by_cases h1 : out.length ≤ a
 ·rw [if_pos (by omega), sb, if_pos (show Refused out a b from (.inl h1))]
 ·have hlt : a < out.length := by omega
  rw [if_neg (by omega), l1In_eq, sb]
  by_cases h2 : 0 ≤ b ∧ b ≤ 500
  ·rw [if_pos (by simpa using h2), idx_gI hlt, sb]
   by_cases h3 : gI out a ≥ 0
   ·rw [if_pos h3, sb]
    by_cases h4 : gI out a = b
    ·rw [if_pos h4, sb, sb, sb, if_neg (show ¬ Refused out a b by intro h; rcases h with h | h | h; exact h1 h; exact h h2; exact h.2 h4)]; rfl
    ·rw [if_neg h4, sb, if_pos (show Refused out a b from (.inr (.inr ⟨h3, h4⟩)))]
   ·rw [if_neg h3, sb, sb, sb, if_neg (show ¬ Refused out a b by intro h; rcases h with h | h | h; exact h1 h; exact h h2; exact h3 h.1)]; rfl
  ·rw [if_neg (by simpa using h2), sb, if_pos (show Refused out a b from (.inr (.inl h2)))]
theorem iGive {out work : List Int} (a : Nat) (b : Int) (hw : work.length < 1000000000) : m_i_HeightsOf_c1 (a : Int) b out work = some (if Refused out a b then (false, out, work) else if gI out a < 0 then (true, out.set a b, work ++ [(a : Int)]) else (true, out, work)) := by
 unfold m_i_HeightsOf_c1
 by_cases h1 : out.length ≤ a
 ·rw [if_pos (by omega), sb, if_pos (show Refused out a b from (.inl h1))]
 ·have hlt : a < out.length := by omega
  rw [if_neg (by omega), range_eq, sb]
  have fin2 : ∀ hc : ¬ Refused out a b, (idx out (a : Int) >>= fun x15 =>
   (if x15 < 0 then
    idx out (a : Int) >>= fun x18 =>
    lapp 8 work ([(a : Int)] : List Int) >>= fun l20 =>
    some (true, (out.set (a : Int).toNat b), l20)
   else
    some (true, out, work))) = some (if Refused out a b then (false, out, work) else if gI out a < 0 then (true, out.set a b, work ++ [(a : Int)]) else (true, out, work)) := fun hc => by
   rw [if_neg hc, idx_gI hlt, sb]
   by_cases h5 : gI out a < 0
   ·rw [if_pos h5, sb, lapp_eq (by simp; omega), sb, if_pos h5]; rfl
   ·rw [if_neg h5, if_neg h5]
  by_cases h2 : 0 ≤ b ∧ b ≤ 500
  ·rw [if_pos (by simpa using h2)]
   rw [idx_gI hlt, sb]
   by_cases h3 : gI out a ≥ 0
   ·rw [if_pos h3, sb]
    by_cases h4 : gI out a = b
    ·rw [if_pos h4, sb, ← idx_gI hlt]
     exact fin2 (by intro h; rcases h with h | h | h; exact h1 h; exact h h2; exact h.2 h4)
    ·rw [if_neg h4, sb, if_pos (show Refused out a b from (.inr (.inr ⟨h3, h4⟩)))]
   ·rw [if_neg h3, sb, ← idx_gI hlt]
    exact fin2 (by intro h; rcases h with h | h | h; exact h1 h; exact h h2; exact h3 h.1)
  ·rw [if_neg (by simpa using h2), sb, if_pos (show Refused out a b from (.inr (.inl h2)))]
end Go.Am
