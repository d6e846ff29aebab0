/- Texts of the proof, joined and shortened. -/
import Derived.Test.YtalfppmpmnlnlaaGreatDoorPk9
set_option linter.unusedVariables false
set_option linter.unusedSimpArgs false
namespace Go.Am
open Go Go.RowKit Go.Proofs
def gI (l : List Int) (i : Nat) : Int := l.getD i 0
theorem rQ {l : List Int} {i : Nat} (h : i < l.length) : idx l (i : Int) = some (gI l i) := by
 rw [a8 h, gI, aee, As h]; rfl
theorem CW {l : List Int} {i : Nat} (h : i < l.length) : gI l i = l[i] := by
 rw [gI, aee, As h]; rfl
theorem tl {l : List Int} {a i : Nat} {b : Int} : gI (l.set a b) i = if a = i ∧ a < l.length then b else gI l i := by
 rw [gI, gI, aee, aee, List.getElem?_set]
 by_cases h : a = i
 ·subst h
  rw [if_pos rfl]
  by_cases h2 : a < l.length
  ·rw [if_pos h2, if_pos ⟨rfl, h2⟩]; rfl
  ·rw [if_neg h2, if_neg (fun h => h2 h.2), aeC agi]
 ·rw [if_neg h, if_neg (fun h2 => h h2.1)]
def neg (l : List Int) : Nat := l.countP (fun x => decide (x < 0))
theorem MN (l : List Int) : neg l ≤ l.length := List.countP_le_length
theorem Qj {l : List Int} {a : Nat} {b : Int} (ha : a < l.length) (h1 : gI l a < 0) (hb : 0 ≤ b) : neg (l.set a b) + 1 = neg l := by
 rw [CW ha] at h1
 have hp : 0 < neg l := List.countP_pos_iff.2 ⟨l[a], aef ha, by simpa using h1⟩
 unfold neg at hp ⊢
 rw [List.countP_set ha, if_pos agG, if_neg ago]
 omega
section
variable (code : List aR)
inductive R : Nat → Int → Prop
 | zero : R 0 0
 | next {i : Nat} {h : Int} (hr : R i h) (hi : i < code.length) (hf : fin (code[i]).aW = false) : R (i + 1) (ah (h + WJ code[i]))
 | jump {i : Nat} {h : Int} (hr : R i h) (hi : i < code.length) (ht : CX (code[i]).aW = true) : R (code[i]).fA.toNat (ah (h + WK (code[i]).aW))
def uf : Prop := (∀ i h, R code i h → ∃ hi : i < code.length, 0 ≤ h ∧ h ≤ 500 ∧ Ip code[i] ≤ h) ∧ ∀ i h h', R code i h → R code i h' → h = h'
def XE (out : List Int) : Prop := out.length = code.length ∧ ∀ i, i < code.length → (gI out i = -1 ∨ R code i (gI out i)) ∧ ∀ h, R code i h → gI out i = h
theorem XE.uniq {a b : List Int} (ha : XE code a) (hb : XE code b) : a = b := by
 refine List.ext_getElem (ha.1.trans hb.1.symm) fun i h1 h2 => ?_
 have hi : i < code.length := by rw [← ha.1]; exact h1
 rw [← CW h1, ← CW h2]
 obtain ⟨a1, a2⟩ := ha.2 i hi
 obtain ⟨b1, b2⟩ := hb.2 i hi
 rcases a1 with a1 | a1
 ·rcases b1 with b1 | b1
  ·rw [a1, b1]
  ·exact a2 _ b1
 ·exact (b2 _ a1).symm
structure Part (out : List Int) : Prop where
 len : out.length = code.length
 val : ∀ i, i < code.length → gI out i = -1 ∨ (0 ≤ gI out i ∧ R code i (gI out i))
 zero : 0 < code.length → gI out 0 = 0
 le : ∀ i, i < code.length → gI out i ≤ 500
def Gd (out : List Int) (i : Nat) (hi : i < code.length) : Prop :=
 Ip code[i] ≤ gI out i ∧ gI out i ≤ 500 ∧
 (fin (code[i]).aW = false → i + 1 < code.length ∧ 0 ≤ gI out (i + 1) ∧ gI out (i + 1) = ah (gI out i + WJ code[i])) ∧
 (CX (code[i]).aW = true → (code[i]).fA.toNat < code.length ∧ 0 ≤ gI out (code[i]).fA.toNat ∧ gI out (code[i]).fA.toNat = ah (gI out i + WK (code[i]).aW))
def Ext (out iM : List Int) : Prop := iM.length = out.length ∧ ∀ i, 0 ≤ gI out i → gI iM i = gI out i
theorem Ext.refl (out : List Int) : Ext out out := ⟨rfl, fun _ _ => rfl⟩
theorem Ext.trans {a b c : List Int} (h1 : Ext a b) (h2 : Ext b c) : Ext a c := ⟨h2.1.trans h1.1, fun i hi => (h2.2 i (by rw [h1.2 i hi]; exact hi)).trans (h1.2 i hi)⟩
theorem Gd.ext {out iM : List Int} {i : Nat} {hi : i < code.length} (h : Gd code out i hi) (h0 : 0 ≤ gI out i) (he : Ext out iM) : Gd code iM i hi := by
 obtain ⟨h1, h2, h3, h4⟩ := h
 have e := he.2 i h0
 refine ⟨by rw [e]; exact h1, by rw [e]; exact h2, fun hf => ?_, fun ht => ?_⟩
 ·obtain ⟨a, b, c⟩ := h3 hf
  rw [e, he.2 _ b]
  exact ⟨a, b, c⟩
 ·obtain ⟨a, b, c⟩ := h4 ht
  rw [e, he.2 _ b]
  exact ⟨a, b, c⟩
theorem Ec {out : List Int} (hp : Part code out) (hd : ∀ i (hi : i < code.length), 0 ≤ gI out i → Gd code out i hi) (h0 : 0 < code.length) : uf code ∧ XE code out := by
 have key : ∀ i h, R code i h → ∃ hi : i < code.length, gI out i = h ∧ 0 ≤ h := fun i h hr => by
  induction hr with
  | zero => exact ⟨h0, hp.zero h0, Int.le_refl _⟩
  | next hr hi hf ih =>
   obtain ⟨_, e, hh⟩ := ih
   obtain ⟨_, _, h3, _⟩ := hd _ hi (by rw [e]; exact hh)
   obtain ⟨a, b, c⟩ := h3 hf
   rw [e] at c
   exact ⟨a, c, by rw [← c]; exact b⟩
  | jump hr hi ht ih =>
   obtain ⟨_, e, hh⟩ := ih
   obtain ⟨_, _, _, h4⟩ := hd _ hi (by rw [e]; exact hh)
   obtain ⟨a, b, c⟩ := h4 ht
   rw [e] at c
   exact ⟨a, c, by rw [← c]; exact b⟩
 refine ⟨⟨fun i h hr => ?_, fun i h h' hr hr' => ?_⟩, hp.len, fun i hi => ⟨(hp.val i hi).imp id (·.2), fun h hr => (key i h hr).2.1⟩⟩
 ·obtain ⟨hi, e, hh⟩ := key i h hr
  obtain ⟨h1, h2, _⟩ := hd i hi (by rw [e]; exact hh)
  rw [e] at h1 h2
  exact ⟨hi, hh, h2, h1⟩
 ·rw [← (key i h hr).2.1, (key i h' hr').2.1]
def ic (out : List Int) (a : Nat) (b : Int) : Prop := out.length ≤ a ∨ ¬(0 ≤ b ∧ b ≤ 500) ∨ (0 ≤ gI out a ∧ gI out a ≠ b)
instance (out : List Int) (a : Nat) (b : Int) : Decidable (ic out a b) := by unfold ic; exact inferInstance
theorem yy {out : List Int} {a : Nat} {b : Int} (hp : Part code out) (hr : R code a b) (h : ic out a b) : ¬ uf code := fun hg => by
 obtain ⟨hi, h1, h2, _⟩ := hg.1 a b hr
 rcases h with h | h | ⟨h, h3⟩
 ·rw [hp.len] at h; omega
 ·exact h ⟨h1, h2⟩
 ·rcases hp.val a hi with q | ⟨_, q⟩
  ·omega
  ·exact h3 (hg.2 a _ _ q hr)
theorem given {out : List Int} {a : Nat} {b : Int} (hp : Part code out) (hr : R code a b) (h : ¬ ic out a b) : a < code.length ∧ 0 ≤ b ∧ b ≤ 500 ∧ Part code (out.set a b) ∧ Ext out (out.set a b) ∧ gI (out.set a b) a = b ∧
  (∀ i, 0 ≤ gI (out.set a b) i → 0 ≤ gI out i ∨ i = a) ∧ (gI out a < 0 → neg (out.set a b) + 1 = neg out) ∧ (¬ gI out a < 0 → out.set a b = out) := by
 have h1 : ¬ out.length ≤ a := fun x => h (.inl x)
 have h2 : 0 ≤ b ∧ b ≤ 500 := Decidable.not_not.1 (fun x => h (.inr (.inl x)))
 have h3 : 0 ≤ gI out a → gI out a = b := fun x => Decidable.not_not.1 (fun y => h (.inr (.inr ⟨x, y⟩)))
 have bP : a < out.length := by omega
 have hac : a < code.length := by rw [← hp.len]; exact bP
 have he : Ext out (out.set a b) := ⟨afa, fun i hi => by
  rw [tl]
  by_cases hai : a = i ∧ a < out.length
  ·obtain ⟨rfl, _⟩ := hai
   rw [if_pos ⟨rfl, bP⟩]
   exact (h3 hi).symm
  ·rw [if_neg hai]⟩
 refine ⟨hac, h2.1, h2.2, ⟨by rw [afa]; exact hp.len, fun i hi => ?_, fun h0 => ?_, fun i hi => ?_⟩, he, by rw [tl, if_pos ⟨rfl, bP⟩], fun i hi => ?_, fun hn => Qj bP hn h2.1, fun hn => ?_⟩
 ·rw [tl]
  by_cases hai : a = i ∧ a < out.length
  ·obtain ⟨rfl, _⟩ := hai
   rw [if_pos ⟨rfl, bP⟩]
   exact .inr ⟨h2.1, hr⟩
  ·rw [if_neg hai]; exact hp.val i hi
 ·have := hp.zero h0
  rw [he.2 0 agi]; exact this
 ·rw [tl]
  by_cases hai : a = i ∧ a < out.length
  ·rw [if_pos hai]; exact h2.2
  ·rw [if_neg hai]; exact hp.le i hi
 ·rw [tl] at hi
  by_cases hai : a = i ∧ a < out.length
  ·exact .inr hai.1.symm
  ·rw [if_neg hai] at hi; exact .inl hi
 ·have : gI out a = b := h3 agi
  rw [← this, CW bP]
  exact List.set_getElem_self bP
end
theorem XF {out : List Int} (a : Nat) (b : Int) : fm out (a : Int) b = some (if ic out a b then (false, false, out) else (decide (gI out a < 0), true, out.set a b)) := by
 unfold fm
 by_cases h1 : out.length ≤ a
 ·rw [if_pos agi, sb, if_pos (show ic out a b from (.inl h1))]
 ·have bP : a < out.length := by omega
  rw [if_neg agi, ql, sb]
  by_cases h2 : 0 ≤ b ∧ b ≤ 500
  ·rw [if_pos agw, rQ bP, sb]
   by_cases h3 : gI out a ≥ 0
   ·rw [if_pos h3, sb]
    by_cases h4 : gI out a = b
    ·rw [if_pos h4, sb, sb, sb, if_neg (show ¬ ic out a b by intro h; rcases h with h | h | h; exact h1 h; exact h h2; exact h.2 h4)]; rfl
    ·rw [if_neg h4, sb, if_pos (show ic out a b from (.inr (.inr ⟨h3, h4⟩)))]
   ·rw [if_neg h3, sb, sb, sb, if_neg (show ¬ ic out a b by intro h; rcases h with h | h | h; exact h1 h; exact h h2; exact h3 h.1)]; rfl
  ·rw [if_neg agw, sb, if_pos (show ic out a b from (.inr (.inl h2)))]
theorem XG {out work : List Int} (a : Nat) (b : Int) (hw : work.length < 1000000000) : dm (a : Int) b out work = some (if ic out a b then (false, out, work) else if gI out a < 0 then (true, out.set a b, work ++ [(a : Int)]) else (true, out, work)) := by
 unfold dm
 by_cases h1 : out.length ≤ a
 ·rw [if_pos agi, sb, if_pos (show ic out a b from (.inl h1))]
 ·have bP : a < out.length := by omega
  rw [if_neg agi, mv, sb]
  have KZ : ∀ hc : ¬ ic out a b, (idx out (a : Int) >>= fun xH =>
   (if xH < 0 then
    idx out (a : Int) >>= fun aV =>
    kV 8 work ([(a : Int)] : List Int) >>= fun WL =>
    some (true, (out.set (a : Int).toNat b), WL)
   else
    some (true, out, work))) = some (if ic out a b then (false, out, work) else if gI out a < 0 then (true, out.set a b, work ++ [(a : Int)]) else (true, out, work)) := fun hc => by
   rw [if_neg hc, rQ bP, sb]
   by_cases h5 : gI out a < 0
   ·rw [if_pos h5, sb, np ago, sb, if_pos h5]; rfl
   ·rw [if_neg h5, if_neg h5]
  by_cases h2 : 0 ≤ b ∧ b ≤ 500
  ·rw [if_pos agw]
   rw [rQ bP, sb]
   by_cases h3 : gI out a ≥ 0
   ·rw [if_pos h3, sb]
    by_cases h4 : gI out a = b
    ·rw [if_pos h4, sb, ← rQ bP]
     exact KZ (by intro h; rcases h with h | h | h; exact h1 h; exact h h2; exact h.2 h4)
    ·rw [if_neg h4, sb, if_pos (show ic out a b from (.inr (.inr ⟨h3, h4⟩)))]
   ·rw [if_neg h3, sb, ← rQ bP]
    exact KZ (by intro h; rcases h with h | h | h; exact h1 h; exact h h2; exact h3 h.1)
  ·rw [if_neg agw, sb, if_pos (show ic out a b from (.inr (.inl h2)))]
structure aa5 (code : List aR) (out work : List Int) (a : Nat) (b : Int) (iM ph : List Int) : Prop where
 part : Part code iM
 ext : Ext out iM
 at_ : gI iM a = b
 lt : a < code.length
 lo : 0 ≤ b
 hi : b ≤ 500
 new : ∀ i, 0 ≤ gI iM i → 0 ≤ gI out i ∨ (i : Int) ∈ ph
 sub : ∀ x, x ∈ work → x ∈ ph
 mem : ∀ x, x ∈ ph → x ∈ work ∨ x = (a : Int)
 mu : 2 * neg iM + ph.length ≤ 2 * neg out + work.length
theorem MO {code : List aR} {out work : List Int} {a : Nat} {b : Int} (hp : Part code out) (hr : R code a b) (hw : work.length < 1000000000) :
  (dm (a : Int) b out work = some (false, out, work) ∧ ¬ uf code) ∨ ∃ iM ph, dm (a : Int) b out work = some (true, iM, ph) ∧ aa5 code out work a b iM ph := by
 rw [XG a b hw]
 by_cases h : ic out a b
 ·rw [if_pos h]; exact .inl ⟨rfl, yy code hp hr h⟩
 ·obtain ⟨h1, h2, h3, h4, h5, h6, h7, h8, h9⟩ := given code hp hr h
  rw [if_neg h]
  right
  by_cases hn : gI out a < 0
  ·rw [if_pos hn]
   refine ⟨_, _, rfl, h4, h5, h6, h1, h2, h3, fun i hi => (h7 i hi).imp id (fun e => by subst e; simp), fun x hx => by simp [hx], fun x hx => by simpa using hx, ?_⟩
   have := h8 hn
   simp only [An, aea, aec]
   omega
  ·rw [if_neg hn]
   have e := h9 hn
   rw [e] at h4 h5 h6 h7
   exact ⟨_, _, rfl, h4, h5, h6, h1, h2, h3, fun i hi => .inl hi, fun x hx => hx, fun x hx => .inl hx, aeb _⟩
structure Inv (code : List aR) (out work : List Int) : Prop where
 part : Part code out
 ok : ∀ x, x ∈ work → ∃ i : Nat, x = (i : Int) ∧ i < code.length ∧ 0 ≤ gI out i
 done : ∀ i (hi : i < code.length), 0 ≤ gI out i → (i : Int) ∈ work ∨ Gd code out i hi
def MP (code : List aR) (o : (List Int) ⊕ (List Int × Bool)) : Prop :=
 (o = .inr ([], false) ∧ ¬ uf code) ∨ ∃ iM, o = .inl iM ∧ Part code iM ∧ ∀ i (hi : i < code.length), 0 ≤ gI iM i → Gd code iM i hi
theorem Iq (l : List Int) (h : 0 < l.length) : ∃ w x, l = w ++ [x] := by
 rcases List.eq_nil_or_concat l with rfl | ⟨w, x, rfl⟩
 ·simp at h
 ·exact ⟨w, x, by simp⟩
theorem XH (a0 : aC) (hn : a0.aq.length ≤ 2000000) (hA : ∀ i (hi : i < a0.aq.length), CX (a0.aq[i]).aW = true → 0 ≤ (a0.aq[i]).fA) :
  ∀ (M : Nat) (out work : List Int), 2 * neg out + work.length ≤ M → M ≤ 100000000 → Inv a0.aq out work → ∃ o, cu a0 out work = some o ∧ MP a0.aq o := by
 intro M
 induction M with
 | zero =>
  intro out work hm _ hv
  have : work.length = 0 := by omega
  rw [cu, if_neg agi]
  have hw : work = [] := afd this
  subst hw
  exact ⟨_, rfl, .inr ⟨out, rfl, hv.part, fun i hi h => (hv.done i hi h).resolve_left agk⟩⟩
 | succ M ih =>
  intro out work hm hM hv
  rw [cu]
  by_cases h0 : 0 < work.length
  ·rw [if_pos agi]
   obtain ⟨w, x, rfl⟩ := Iq work h0
   have hl : (w ++ [x]).length = w.length + 1 := by simp
   have e1 : ah (((w ++ [x]).length : Int) - 1) = (w.length : Int) := Ge agi agi
   rw [e1, a8 agi, sb]
   have e2 : (w ++ [x])[w.length]'agi = x := by simp
   rw [e2]
   have e3 : RW (w ++ [x]) (w.length : Int) = some w := by
    unfold RW
    rw [if_pos ⟨by omega, by omega⟩]
    simp
   rw [e3, sb, sb]
   obtain ⟨i, rfl, hi, hg⟩ := hv.ok x agk
   have hlen := hv.part.len
   rw [a8 hi, sb, rQ agi, sb, RZ, sb]
   have hR : R a0.aq i (gI out i) := by
    rcases hv.part.val i hi with h | ⟨_, h⟩
    ·omega
    ·exact h
   have hwl : w.length < 100000000 := by omega
   have last : ∀ iM ph, Part a0.aq iM → Ext out iM → (∀ j, 0 ≤ gI iM j → 0 ≤ gI out j ∨ (j : Int) ∈ ph) → (∀ y, y ∈ w → y ∈ ph) → (∀ y, y ∈ ph → y ∈ w ∨ ∃ j : Nat, y = (j : Int) ∧ j < a0.aq.length ∧ 0 ≤ gI iM j) →
     2 * neg iM + ph.length ≤ 2 * neg out + w.length → Gd a0.aq iM i hi → ∃ o, cu a0 iM ph = some o ∧ MP a0.aq o := by
    intro iM ph q1 q2 q3 q4 q5 q6 q7
    refine ih iM ph agi agi ⟨q1, fun y hy => ?_, fun j hj h => ?_⟩
    ·rcases q5 y hy with h | h
     ·obtain ⟨j, r1, r2, r3⟩ := hv.ok y (by simp [h])
      exact ⟨j, r1, r2, by rw [q2.2 j r3]; exact r3⟩
     ·exact h
    ·rcases q3 j h with h1 | h1
     ·rcases hv.done j hj h1 with h2 | h2
      ·simp only [aeh, List.mem_singleton] at h2
       rcases h2 with h2 | h2
       ·exact .inl (q4 _ h2)
       ·have : j = i := by omega
        subst this
        exact .inr q7
      ·exact .inr (h2.ext _ h1 q2)
     ·exact .inl h1
   by_cases hneed : Ip a0.aq[i] > gI out i
   ·rw [if_pos hneed]
    exact ⟨_, rfl, .inl ⟨rfl, fun hg => by obtain ⟨_, _, _, h⟩ := hg.1 _ _ hR; omega⟩⟩
   rw [if_neg hneed, XI, sb]
   have h5 : gI out i ≤ 500 := hv.part.le i hi
   cases hf : fin (a0.aq[i]).aW
   ·rw [if_neg agk, XJ, sb, aS agi]
    rcases MO hv.part (.next hR hi hf) agi (work := w) with ⟨e, hb⟩ | ⟨aa6, R2, e, g1⟩
    ·rw [e, sb]
     exact ⟨_, rfl, .inl ⟨rfl, hb⟩⟩
    ·rw [e, sb]
     dsimp only
     rw [if_pos rfl, TJ, sb]
     have d1 := g1.ext.2 i hg
     cases ht : CX (a0.aq[i]).aW
     ·rw [if_neg agk]
      refine last aa6 R2 g1.part g1.ext g1.new g1.sub (fun y hy => (g1.mem y hy).imp id (fun e => ⟨_, e, g1.lt, by rw [g1.at_]; exact g1.lo⟩)) g1.mu ⟨by rw [d1]; omega, by rw [d1]; exact h5, fun _ => ⟨g1.lt, by rw [g1.at_]; exact g1.lo, by rw [g1.at_, d1]⟩, fun h => by rw [ht] at h; cases h⟩
     ·rw [if_pos rfl, TK, sb]
      have ea : (a0.aq[i]).fA = (((a0.aq[i]).fA.toNat : Nat) : Int) := by have := hA i hi ht; omega
      rcases MO g1.part (.jump hR hi ht) (by have := g1.mu; have := MN out; omega) (work := R2) with ⟨e, hb⟩ | ⟨TL, MQ, e, g2⟩
      ·rw [← ea] at e
       rw [e, sb]
       exact ⟨_, rfl, .inl ⟨rfl, hb⟩⟩
      ·rw [← ea] at e
       rw [e, sb]
       dsimp only
       rw [if_pos rfl]
       have d2 := g2.ext.2 i (by rw [d1]; exact hg)
       have m1 := g1.mu
       have m2 := g2.mu
       refine last TL MQ g2.part (g1.ext.trans g2.ext) (fun j hj => ?_) (fun y hy => g2.sub _ (g1.sub _ hy)) (fun y hy => ?_) agi ⟨by rw [d2, d1]; omega, by rw [d2, d1]; exact h5, fun _ => ⟨g1.lt, ?_, ?_⟩, fun _ => ⟨g2.lt, by rw [g2.at_]; exact g2.lo, by rw [g2.at_, d2, d1]⟩⟩
       ·rcases g2.new j hj with h | h
        ·rcases g1.new j h with h | h
         ·exact .inl h
         ·exact .inr (g2.sub _ h)
        ·exact .inr h
       ·rcases g2.mem y hy with h | h
        ·rcases g1.mem y h with h | h
         ·exact .inl h
         ·refine .inr ⟨_, h, g1.lt, ?_⟩
          rw [g2.ext.2 _ (by rw [g1.at_]; exact g1.lo), g1.at_]; exact g1.lo
        ·exact .inr ⟨_, h, g2.lt, by rw [g2.at_]; exact g2.lo⟩
       ·rw [g2.ext.2 _ (by rw [g1.at_]; exact g1.lo), g1.at_]; exact g1.lo
       ·rw [g2.ext.2 _ (by rw [g1.at_]; exact g1.lo), g1.at_, d2, d1]
   ·rw [if_pos rfl, TJ, sb]
    cases ht : CX (a0.aq[i]).aW
    ·rw [if_neg agk]
     exact last out w hv.part (Ext.refl _) (fun j h => .inl h) (fun y hy => hy) (fun y hy => .inl hy) (aeb _) ⟨by omega, h5, (fun h => by rw [hf] at h; cases h), (fun h => by rw [ht] at h; cases h)⟩
    ·rw [if_pos rfl, TK, sb]
     have ea : (a0.aq[i]).fA = (((a0.aq[i]).fA.toNat : Nat) : Int) := by have := hA i hi ht; omega
     rcases MO hv.part (.jump hR hi ht) agi (work := w) with ⟨e, hb⟩ | ⟨TL, MQ, e, g2⟩
     ·rw [← ea] at e
      rw [e, sb]
      exact ⟨_, rfl, .inl ⟨rfl, hb⟩⟩
     ·rw [← ea] at e
      rw [e, sb]
      dsimp only
      rw [if_pos rfl]
      have d2 := g2.ext.2 i hg
      exact last TL MQ g2.part g2.ext g2.new g2.sub (fun y hy => (g2.mem y hy).imp id (fun e => ⟨_, e, g2.lt, by rw [g2.at_]; exact g2.lo⟩)) g2.mu ⟨by rw [d2]; omega, by rw [d2]; exact h5, (fun h => by rw [hf] at h; cases h), fun _ => ⟨g2.lt, by rw [g2.at_]; exact g2.lo, by rw [g2.at_, d2]⟩⟩
  ·rw [if_neg agi]
   have hw : work = [] := afd agi
   subst hw
   exact ⟨_, rfl, .inr ⟨out, rfl, hv.part, fun i hi h => (hv.done i hi h).resolve_left agk⟩⟩
structure Gf (code : List aR) (out : List Int) (E : List Int → Prop) (l : List Int) (f ok : Bool) : Prop where
 bad : ok = false → l = out ∧ ¬ uf code
 part : Part code l
 ext : Ext out l
 Qk : ok = true → E l
 fresh : f = true → neg l + 1 = neg out
 B1 : f = false → l = out
theorem Gf.none {code : List aR} {out : List Int} {E : List Int → Prop} (hp : Part code out) (hE : E out) : Gf code out E out false true :=
 ⟨fun h => (by cases h), hp, Ext.refl _, fun _ => hE, (fun h => by cases h), fun _ => rfl⟩
theorem R3 {code : List aR} {out : List Int} {a : Nat} {b : Int} (hp : Part code out) (hr : R code a b) :
  ∃ l f ok, fm out (a : Int) b = some (f, ok, l) ∧ Gf code out (fun l => a < code.length ∧ 0 ≤ gI l a ∧ gI l a = b) l f ok := by
 rw [XF a b]
 by_cases h : ic out a b
 ·rw [if_pos h]
  exact ⟨_, _, _, rfl, fun _ => ⟨rfl, yy code hp hr h⟩, hp, Ext.refl _, (fun h => by cases h), (fun h => by cases h), fun _ => rfl⟩
 ·obtain ⟨h1, h2, h3, h4, h5, h6, h7, h8, h9⟩ := given code hp hr h
  rw [if_neg h]
  exact ⟨_, _, _, rfl, (fun h => by cases h), h4, h5, fun _ => ⟨h1, by rw [h6]; exact h2, h6⟩, fun hf => h8 (by simpa using hf), fun hf => h9 (by simpa using hf)⟩
theorem Ka {α β : Type} {x : Option α} {v : α} {K : α → Option β} {P : β → Prop} (h : x = some v) (hk : ∃ o, K v = some o ∧ P o) : ∃ o, (x >>= K) = some o ∧ P o := by
 subst h; exact hk
def R4 (code : List aR) (y : Nat) (out : List Int) (more : Bool) (o : (List Int × Bool) ⊕ ((List Int) ⊕ (List Int × Bool))) : Prop :=
 (o = .inr (.inr ([], false)) ∧ ¬ uf code) ∨ ∃ iM tm, o = .inl (iM, tm) ∧ Part code iM ∧ neg iM ≤ neg out ∧ (tm = true → more = true ∨ neg iM < neg out) ∧
  (tm = false → more = false ∧ iM = out ∧ ∀ j (hj : j < code.length), y ≤ j → 0 ≤ gI out j → Gd code out j hj)
theorem MR (a0 : aC) (hn : a0.aq.length ≤ 2000000) (hA : ∀ i (hi : i < a0.aq.length), CX (a0.aq[i]).aW = true → 0 ≤ (a0.aq[i]).fA) :
  ∀ (f y : Nat) (out : List Int) (more : Bool), a0.aq.length ≤ y + f → Part a0.aq out → ∃ o, cA a0 out more (y : Int) = some o ∧ R4 a0.aq y out more o := by
 intro f
 induction f with
 | zero =>
  intro y out more hy hp
  have hlen := hp.len
  rw [cA, if_neg agi]
  exact ⟨_, rfl, .inr ⟨out, more, rfl, hp, aeb _, .inl, fun h => ⟨h, rfl, fun j hj h1 => absurd hj agi⟩⟩⟩
 | succ f ih =>
  intro y out more hy hp
  have hlen := hp.len
  rw [cA]
  by_cases hc : y < a0.aq.length
  ·rw [if_pos agi, a8 hc, sb, rQ agi, sb]
   by_cases h0 : gI out y < 0
   ·rw [if_pos h0, aS agi]
    obtain ⟨o, e, h⟩ := ih (y + 1) out more agi hp
    refine ⟨o, e, ?_⟩
    rcases h with h | ⟨iM, tm, e, h1, h2, h3, h4⟩
    ·exact .inl h
    ·refine .inr ⟨iM, tm, e, h1, h2, h3, fun hm => ?_⟩
     obtain ⟨q1, q2, q3⟩ := h4 hm
     refine ⟨q1, q2, fun j hj h5 h6 => ?_⟩
     rcases Nat.eq_or_lt_of_le h5 with rfl | h7
     ·omega
     ·exact q3 j hj h7 h6
   ·rw [if_neg h0, sb, XK, sb]
    have hR : R a0.aq y (gI out y) := by
     rcases hp.val y hc with h | ⟨_, h⟩
     ·omega
     ·exact h
    by_cases hneed : Ip a0.aq[y] > gI out y
    ·rw [if_pos hneed]
     exact ⟨_, rfl, .inl ⟨rfl, fun hg => by obtain ⟨_, _, _, h⟩ := hg.1 _ _ hR; omega⟩⟩
    rw [if_neg hneed]
    have b1 : ∃ l1 f1 ok1, (kn (a0.aq[y]).aW >>= fun MS =>
      (if MS = true then some (out, false, true) else
       (some (gI out y) : Option Int) >>= fun x60 =>
       iZ a0.aq[y] >>= fun TM =>
       fm out (ah ((y : Int) + 1)) (ah (x60 + TM)) >>= fun (HV, B2, Gg) =>
       some (Gg, HV, B2)) : Option ((List Int) × Bool × Bool)) = some (l1, f1, ok1) ∧
      Gf a0.aq out (fun l => fin (a0.aq[y]).aW = false → y + 1 < a0.aq.length ∧ 0 ≤ gI l (y + 1) ∧ gI l (y + 1) = ah (gI out y + WJ a0.aq[y])) l1 f1 ok1 := by
     rw [aa7, sb]
     cases hf : fin (a0.aq[y]).aW
     ·rw [if_neg agk, sb, aa8, sb, aS agi]
      obtain ⟨l, f1, ok, e, g⟩ := R3 hp (.next hR hc hf)
      rw [e, sb]
      exact ⟨_, _, _, rfl, g.bad, g.part, g.ext, fun h _ => g.Qk h, g.fresh, g.B1⟩
     ·rw [if_pos rfl]
      exact ⟨_, _, _, rfl, .none hp (fun h => by cases h)⟩
    obtain ⟨l1, f1, ok1, e1, g1⟩ := b1
    have d1 : gI l1 y = gI out y := g1.ext.2 y agi
    have b2 : ∃ l2 f2 ok2, (dU (a0.aq[y]).aW >>= fun v76 =>
      (if v76 = true then
       idx l1 (y : Int) >>= fun x79 =>
       eO (a0.aq[y]).aW >>= fun XL =>
       fm l1 (a0.aq[y]).fA (ah (x79 + XL)) >>= fun (PJ, XM, v85) =>
       some (v85, PJ, XM)
      else some (l1, false, true)) : Option ((List Int) × Bool × Bool)) = some (l2, f2, ok2) ∧
      Gf a0.aq l1 (fun l => CX (a0.aq[y]).aW = true → (a0.aq[y]).fA.toNat < a0.aq.length ∧ 0 ≤ gI l (a0.aq[y]).fA.toNat ∧ gI l (a0.aq[y]).fA.toNat = ah (gI out y + WK (a0.aq[y]).aW)) l2 f2 ok2 := by
     rw [XN, sb]
     cases ht : CX (a0.aq[y]).aW
     ·rw [if_neg agk]
      exact ⟨_, _, _, rfl, .none g1.part (fun h => by cases h)⟩
     ·have ea : (a0.aq[y]).fA = (((a0.aq[y]).fA.toNat : Nat) : Int) := by have := hA y hc ht; omega
      have Ed := g1.part.len
      rw [if_pos rfl, rQ agi, sb, aa9, sb, d1]
      obtain ⟨l, f2, ok, e, g⟩ := R3 g1.part (.jump hR hc ht)
      rw [← ea] at e
      rw [e, sb]
      exact ⟨_, _, _, rfl, g.bad, g.part, g.ext, fun h _ => g.Qk h, g.fresh, g.B1⟩
    obtain ⟨l2, f2, ok2, e2, g2⟩ := b2
    refine Ka e1 ?_
    refine Ka e2 ?_
    dsimp only
    cases XO : ok1
    ·rw [if_neg agk]
     exact ⟨_, rfl, .inl ⟨rfl, (g1.bad XO).2⟩⟩
    rw [if_pos rfl]
    cases XP : ok2
    ·rw [if_neg agk]
     exact ⟨_, rfl, .inl ⟨rfl, (g2.bad XP).2⟩⟩
    rw [if_pos rfl, aS agi]
    have n1 : neg l1 ≤ neg out := by
     cases xL : f1
     ·rw [g1.B1 xL]; exact aeb _
     ·have := g1.fresh xL; omega
    have n2 : neg l2 ≤ neg l1 := by
     cases Kb : f2
     ·rw [g2.B1 Kb]; exact aeb _
     ·have := g2.fresh Kb; omega
    have KZ : ∀ m2 : Bool, m2 = (if more = true then true else if f1 = true then true else f2) → ∃ o, cA a0 l2 m2 ((y + 1 : Nat) : Int) = some o ∧ R4 a0.aq y out more o := by
     intro m2 Ir
     obtain ⟨o, e, h⟩ := ih (y + 1) l2 m2 agi g2.part
     refine ⟨o, e, ?_⟩
     rcases h with h | ⟨iM, tm, e, h1, h2, h3, h4⟩
     ·exact .inl h
     ·refine .inr ⟨iM, tm, e, h1, by omega, fun hm => ?_, fun hm => ?_⟩
      ·rcases h3 hm with h5 | h5
       ·rw [h5] at Ir
        cases hmo : more
        ·right
         rw [hmo, if_neg agk] at Ir
         cases xL : f1
         ·rw [xL, if_neg agk] at Ir
          have := g2.fresh Ir.symm
          omega
         ·have := g1.fresh xL
          omega
        ·exact .inl rfl
       ·exact .inr agi
      ·obtain ⟨q1, q2, q3⟩ := h4 hm
       rw [q1] at Ir
       cases hmo : more
       case true => rw [hmo, if_pos rfl] at Ir; cases Ir
       rw [hmo, if_neg agk] at Ir
       cases xL : f1
       case true => rw [xL, if_pos rfl] at Ir; cases Ir
       rw [xL, if_neg agk] at Ir
       have r2 := g2.B1 Ir.symm
       have r1 := g1.B1 xL
       have E1 := g1.Qk XO
       have E2 := g2.Qk XP
       rw [r2] at E2 q2 q3
       rw [r1] at E1 E2 q2 q3
       refine ⟨rfl, q2, fun j hj h5 h6 => ?_⟩
       rcases Nat.eq_or_lt_of_le h5 with rfl | h7
       ·exact ⟨by omega, hp.le _ hj, E1, E2⟩
       ·exact q3 j hj h7 h6
    cases hmo : more
    ·rw [if_neg agk]
     cases xL : f1
     ·rw [if_neg agk]
      rw [← hmo]
      exact KZ f2 (by rw [hmo, if_neg agk, xL, if_neg agk])
     ·rw [if_pos rfl]
      rw [← hmo]
      exact KZ true (by rw [hmo, if_neg agk, xL, if_pos rfl])
    ·rw [if_pos rfl]
     have k := KZ true (by rw [hmo, if_pos rfl])
     rw [hmo] at k
     exact k
  ·rw [if_neg agi]
   exact ⟨_, rfl, .inr ⟨out, more, rfl, hp, aeb _, .inl, fun h => ⟨h, rfl, fun j hj h1 => absurd hj agi⟩⟩⟩
theorem XR (a0 : aC) (hn : a0.aq.length ≤ 2000000) (hA : ∀ i (hi : i < a0.aq.length), CX (a0.aq[i]).aW = true → 0 ≤ (a0.aq[i]).fA) :
  ∀ (M : Nat) (out : List Int), neg out ≤ M → Part a0.aq out → ∃ o, dn a0 out true = some o ∧ MP a0.aq o := by
 intro M
 induction M with
 | zero =>
  intro out hm hp
  rw [dn, if_pos rfl]
  obtain ⟨o, e, h⟩ := MR a0 hn hA a0.aq.length 0 out false agi hp
  rw [show ((0 : Nat) : Int) = 0 from rfl] at e
  rw [e, sb]
  rcases h with ⟨rfl, h⟩ | ⟨iM, tm, rfl, h1, h2, h3, h4⟩
  ·exact ⟨_, rfl, .inl ⟨rfl, h⟩⟩
  ·dsimp only
   cases Gh : tm
   ·obtain ⟨_, q2, q3⟩ := h4 Gh
    rw [dn, if_neg agk]
    subst q2
    exact ⟨_, rfl, .inr ⟨_, rfl, h1, fun i hi h => q3 i hi (aeE _) h⟩⟩
   ·rcases h3 Gh with h | h
    ·cases h
    ·omega
 | succ M ih =>
  intro out hm hp
  rw [dn, if_pos rfl]
  obtain ⟨o, e, h⟩ := MR a0 hn hA a0.aq.length 0 out false agi hp
  rw [show ((0 : Nat) : Int) = 0 from rfl] at e
  rw [e, sb]
  rcases h with ⟨rfl, h⟩ | ⟨iM, tm, rfl, h1, h2, h3, h4⟩
  ·exact ⟨_, rfl, .inl ⟨rfl, h⟩⟩
  ·dsimp only
   cases Gh : tm
   ·obtain ⟨_, q2, q3⟩ := h4 Gh
    rw [dn, if_neg agk]
    subst q2
    exact ⟨_, rfl, .inr ⟨_, rfl, h1, fun i hi h => q3 i hi (aeE _) h⟩⟩
   ·rcases h3 Gh with h | h
    ·cases h
    ·exact ih iM agi h1
def Cs (x : aR) (a b : Int) : Bool := (fK x a b).getD false
theorem XS (x : aR) (a b : Int) : fK x a b = some (Cs x a b) := by obtain ⟨v, h, _⟩ := Gi x a b; rw [Cs, h]; rfl
theorem aba (x : aR) (a b : Int) : mV x a b = some (Cs x a b) := by obtain ⟨v, h, h2⟩ := Gi x a b; rw [Cs, h, h2]; rfl
theorem K0 {n : Int} (h : CX n = true) : n = 27 ∨ n = 28 ∨ n = 29 ∨ n = 44 ∨ n = 45 ∨ n = 49 ∨ n = 52 := by
 unfold CX cC at h
 by_cases h1 : n = 27
 ·exact .inl h1
 by_cases h2 : n = 28
 ·exact .inr (.inl h2)
 by_cases h3 : n = 29
 ·exact .inr (.inr (.inl h3))
 by_cases h4 : n = 44
 ·exact .inr (.inr (.inr (.inl h4)))
 by_cases h5 : n = 45
 ·exact .inr (.inr (.inr (.inr (.inl h5))))
 by_cases h6 : n = 49
 ·exact .inr (.inr (.inr (.inr (.inr (.inl h6)))))
 by_cases h7 : n = 52
 ·exact .inr (.inr (.inr (.inr (.inr (.inr h7)))))
 rw [if_neg h1, if_neg h2, if_neg h3, if_neg h4, if_neg h5, if_neg h6, if_neg h7] at h
 cases h
theorem Ql {x : aR} {a b : Int} (h : Cs x a b = true) (ht : CX x.aW = true) : 0 ≤ x.fA ∧ x.fA < b := by
 have h1 : fK x a b = some true := by rw [XS, h]
 unfold fK at h1
 obtain ⟨v1, _, h1⟩ := bind_some h1
 by_cases hv : v1 = true
 ·rw [if_pos hv] at h1
  obtain ⟨v4, h4, h1⟩ := bind_some h1
  by_cases CR : v4 = true
  ·subst CR
   obtain ⟨n, A, B, S, T⟩ := x
   have ht : CX n = true := ht
   show 0 ≤ A ∧ A < b
   rcases K0 ht with rfl | rfl | rfl | rfl | rfl | rfl | rfl <;>
    ·simp [jw, pj, cC, sb] at h4
     by_cases hA : 0 ≤ A
     ·rw [if_pos hA] at h4
      exact ⟨hA, by simpa using h4⟩
     ·rw [if_neg hA] at h4; cases h4
  ·rw [if_neg CR] at h1; cases h1
 ·rw [if_neg hv] at h1; cases h1
theorem MT {n i : Nat} (h : i < n) : gI (List.replicate n (-1)) i = -1 := by
 rw [CW agz]; simp
theorem R5 (a0 : aC) (hn : a0.aq.length ≤ 2000000) : ∀ (f k : Nat) (l : List Int), a0.aq.length ≤ k + f → k ≤ a0.aq.length → l.length = a0.aq.length → (∀ j, j < k → gI l j = -1) →
  cR a0 l (k : Int) = some (if (a0.aq.drop k).all (fun x => Cs x (a0.ar.length : Int) (a0.aq.length : Int)) then .inl (List.replicate a0.aq.length (-1)) else .inr ([], false))
 | f, k, l, hf, hk, hl, hj => by
  rw [cR]
  by_cases hc : k < a0.aq.length
  ·rw [if_pos agi, a8 hc, sb, XS, sb, aey hc, afc]
   obtain ⟨g, rfl⟩ : ∃ g, f = g + 1 := ⟨f - 1, by omega⟩
   cases hb : Cs a0.aq[k] (a0.ar.length : Int) (a0.aq.length : Int)
   ·rw [if_neg agk, afe, if_neg agk]
   ·rw [if_pos rfl, rQ agi, sb, aS agi, aeW]
    exact R5 a0 hn g (k + 1) _ agi agi (by rw [afa]; exact hl) (fun j h => by
     rw [tl]
     by_cases he : (k : Int).toNat = j ∧ (k : Int).toNat < l.length
     ·rw [if_pos he]
     ·rw [if_neg he]
      exact hj j (by simp at he; omega))
  ·rw [if_neg agi, List.drop_eq_nil_of_le agi]
   have : l = List.replicate a0.aq.length (-1) := List.ext_getElem (by simp [hl]) fun i h1 h2 => by
    rw [← CW h1, hj i agi]; simp
   rw [this]; rfl
theorem R6 (a0 : aC) (hn : a0.aq.length ≤ 2000000) : ∀ (f k : Nat), a0.aq.length ≤ k + f → k ≤ a0.aq.length →
  jl a0 (List.replicate k (-1)) (k : Int) = some (if (a0.aq.drop k).all (fun x => Cs x (a0.ar.length : Int) (a0.aq.length : Int)) then .inl (List.replicate a0.aq.length (-1)) else .inr ([], false))
 | f, k, hf, hk => by
  rw [jl]
  by_cases hc : k < a0.aq.length
  ·rw [if_pos agi, a8 hc, sb, aba, sb, aey hc, afc]
   obtain ⟨g, rfl⟩ : ∃ g, f = g + 1 := ⟨f - 1, by omega⟩
   cases hb : Cs a0.aq[k] (a0.ar.length : Int) (a0.aq.length : Int)
   ·rw [if_neg agk, afe, if_neg agk]
   ·rw [if_pos rfl, np ago, sb, aS agi, aeW]
    have e : List.replicate k (-1 : Int) ++ [-1] = List.replicate (k + 1) (-1) := by rw [List.replicate_succ']
    rw [e]
    exact R6 a0 hn g (k + 1) agi agi
  ·have : k = a0.aq.length := by omega
   rw [if_neg agi, List.drop_eq_nil_of_le agi, this]; rfl
theorem It (code : List aR) (h0 : 0 < code.length) : Part code ((List.replicate code.length (-1)).set 0 0) := by
 have g : ∀ i, i < code.length → gI ((List.replicate code.length (-1)).set 0 0) i = if i = 0 then 0 else -1 := fun i hi => by
  rw [tl]
  by_cases h : i = 0
  ·subst h; rw [if_pos ⟨rfl, by simpa using h0⟩, if_pos rfl]
  ·rw [if_neg (fun q => h q.1.symm), if_neg h, MT hi]
 refine ⟨by simp, fun i hi => ?_, fun _ => by rw [g 0 h0]; rfl, fun i hi => ?_⟩
 ·rw [g i hi]
  by_cases h : i = 0
  ·subst h; rw [if_pos rfl]; exact .inr ⟨Int.le_refl _, .zero⟩
  ·rw [if_neg h]; exact .inl rfl
 ·rw [g i hi]
  by_cases h : i = 0
  ·rw [if_pos h]; omega
  ·rw [if_neg h]; omega
theorem heights (a0 : aC) (hn : a0.aq.length ≤ 2000000) : ∃ l b, eZ a0 = some (l, b) ∧ jL a0 = some (l, b) ∧ (b = false → l = []) ∧
  (b = true → l.length = a0.aq.length ∧ ∀ i (hi : i < a0.aq.length), CX (a0.aq[i]).aW = true → 0 ≤ (a0.aq[i]).fA ∧ (a0.aq[i]).fA < a0.aq.length) := by
 unfold eZ jL
 have es := R6 a0 hn a0.aq.length 0 agi agi
 rw [show ((0 : Nat) : Int) = 0 from rfl, List.replicate_zero] at es
 rw [es]
 by_cases h0 : a0.aq.length = 0
 ·have hd : a0.aq = [] := afd h0
  rw [if_pos agi]
  refine ⟨_, _, rfl, ?_, fun _ => rfl, fun h => by cases h⟩
  rw [hd]; rfl
 ·rw [if_neg agi]
  have em : (nv 8 (a0.aq.length : Int) (a0.aq.length : Int) : Option (List Int)) = some (List.replicate a0.aq.length default) := by
   unfold nv
   rw [if_pos ⟨by omega, by omega, by omega, by omega⟩]; rfl
  have ei := R5 a0 hn a0.aq.length 0 (List.replicate a0.aq.length default) agi agi agk (fun j h => absurd h agi)
  rw [show ((0 : Nat) : Int) = 0 from rfl] at ei
  rw [em, sb, ei, aeI]
  cases lz : a0.aq.all (fun x => Cs x (a0.ar.length : Int) (a0.aq.length : Int))
  ·refine ⟨_, _, rfl, rfl, fun _ => rfl, fun h => by cases h⟩
  ·have hA : ∀ i (hi : i < a0.aq.length), CX (a0.aq[i]).aW = true → 0 ≤ (a0.aq[i]).fA ∧ (a0.aq[i]).fA < a0.aq.length := fun i hi ht =>
    Ql (aei.1 lz _ (aef hi)) ht
   have hp := It a0.aq agi
   rw [if_pos rfl, sb, sb]
   dsimp only
   have hz : idx (List.replicate a0.aq.length (-1)) 0 = some (-1) := by
    have := a8 (l := List.replicate a0.aq.length (-1 : Int)) (i := 0) ago
    rw [show ((0 : Nat) : Int) = 0 from rfl] at this
    rw [this]; simp
   rw [hz, sb, sb, if_neg (by rw [List.length_replicate]; omega)]
   show ∃ l b, (cu a0 ((List.replicate a0.aq.length (-1)).set 0 0) [0] >>= _) = _ ∧ _
   obtain ⟨o, e1, h1⟩ := XH a0 hn (fun i hi ht => (hA i hi ht).1) 10000000 ((List.replicate a0.aq.length (-1)).set 0 0) [0] (by have := MN ((List.replicate a0.aq.length (-1)).set 0 0); simp at this ⊢; omega) agi
    ⟨hp, fun x hx => ⟨0, by simpa using hx, by omega, by rw [hp.zero agi]; exact Int.le_refl _⟩, fun i hi h => .inl (by
     rcases aeM i with rfl | Ct
     ·simp
     ·exfalso
      rw [tl, if_neg (fun q => by omega), MT hi] at h
      omega)⟩
   obtain ⟨o', e2, h2⟩ := XR a0 hn (fun i hi ht => (hA i hi ht).1) _ ((List.replicate a0.aq.length (-1)).set 0 0) (aeb _) hp
   have XT : dn a0 ((List.replicate a0.aq.length (-1)).set (0 : Int).toNat 0) true = some o' := e2
   rw [e1, sb, XT, sb]
   rcases h1 with ⟨rfl, h1⟩ | ⟨out, rfl, p1, d1⟩
   ·rcases h2 with ⟨rfl, h2⟩ | ⟨iM, rfl, p2, d2⟩
    ·exact ⟨_, _, rfl, rfl, fun _ => rfl, fun h => by cases h⟩
    ·exact absurd (Ec a0.aq p2 d2 agi).1 h1
   ·rcases h2 with ⟨rfl, h2⟩ | ⟨iM, rfl, p2, d2⟩
    ·exact absurd (Ec a0.aq p1 d1 agi).1 h2
    ·have := XE.uniq a0.aq (Ec a0.aq p1 d1 agi).2 (Ec a0.aq p2 d2 agi).2
     subst this
     exact ⟨_, _, rfl, rfl, (fun h => by cases h), fun _ => ⟨p1.len, hA⟩⟩
def ie (c : Nat → Bool) (k n : Nat) : Bool := (List.range' k (n - k)).all c
theorem nI {c : Nat → Bool} {k n : Nat} : ie c k n = true ↔ ∀ i, k ≤ i → i < n → c i = true := by
 unfold ie
 rw [aei]
 constructor
 ·intro h i h1 h2
  exact h i (List.mem_range'_1.2 ⟨h1, by omega⟩)
 ·intro h i hi
  have := List.mem_range'_1.1 hi
  exact h i this.1 agi
theorem Ay {c : Nat → Bool} {n : Nat} : ie c n n = true := by unfold ie; simp
theorem xM {c : Nat → Bool} {k n : Nat} (h : k < n) : ie c k n = (c k && ie c (k + 1) n) := by
 unfold ie
 rw [show n - k = (n - (k + 1)) + 1 by omega, List.range'_succ, afc]
theorem Az {σ : Type} {L : σ → Int → Option (Unit ⊕ Bool)} (c : Nat → Bool) (n : Nat) (I : σ → Nat → Prop)
  (hs : ∀ s k, k < n → I s k → (c k = true → ∃ s', I s' (k + 1) ∧ L s (k : Int) = L s' ((k + 1 : Nat) : Int)) ∧ (c k = false → L s (k : Int) = some (.inr false)))
  (he : ∀ s, I s n → L s (n : Int) = some (.inl ())) : ∀ (f k : Nat) (s : σ), n ≤ k + f → k ≤ n → I s k → L s (k : Int) = some (if ie c k n = true then .inl () else .inr false)
 | f, k, s, hf, hk, hi => by
  by_cases hc : k < n
  ·obtain ⟨g, rfl⟩ : ∃ g, f = g + 1 := ⟨f - 1, by omega⟩
   obtain ⟨h1, h2⟩ := hs s k hc hi
   rw [xM hc]
   cases K1 : c k
   ·rw [h2 K1, afe, if_neg agk]
   ·obtain ⟨s', q1, q2⟩ := h1 K1
    rw [q2, aeW]
    exact Az c n I hs he g (k + 1) s' agi agi q1
  ·have : k = n := by omega
   subst this
   rw [he s hi, if_pos Ay]
theorem ug {L : Int → Option (Unit ⊕ Bool)} (c : Nat → Bool) (n : Nat)
  (hs : ∀ k, k < n → (c k = true → L (k : Int) = L ((k + 1 : Nat) : Int)) ∧ (c k = false → L (k : Int) = some (.inr false)))
  (he : L (n : Int) = some (.inl ())) : L 0 = some (if ie c 0 n = true then .inl () else .inr false) :=
 Az (σ := Unit) (L := fun _ => L) c n (fun _ _ => True) (fun s k hk _ => ⟨fun h => ⟨(), trivial, (hs k hk).1 h⟩, (hs k hk).2⟩) (fun _ _ => he) n 0 () agi (aeE _) trivial
theorem wk {κ β : Type} [DecidableEq κ] (z v : β) (k k' : κ) : ∀ l : List (κ × β), rF (fp l k v) k' z = if k' = k then v else rF l k' z
 | [] => by
  unfold rF fp hJ hJ
  by_cases h : k' = k
  ·subst h; simp
  ·simp [h, hJ]
 | (a, b) :: r => by
  have ih := wk z v k k' r
  unfold rF at ih ⊢
  unfold fp
  by_cases h : k = a
  ·subst h
   rw [if_pos rfl]
   by_cases h2 : k' = k
   ·subst h2; simp [hJ]
   ·simp [hJ, h2]
  ·rw [if_neg h]
   by_cases h2 : k' = a
   ·subst h2
    rw [if_neg (fun e => h e.symm)]
    simp [hJ]
   ·simp only [hJ, if_neg h2]
    exact ih
def gS (l : List ba) (i : Nat) : ba := l.getD i []
theorem Ee {l : List ba} {i : Nat} (h : i < l.length) : idx l (i : Int) = some (gS l i) := by
 rw [a8 h, gS, aee, As h]; rfl
def gP (l : List TParam) (i : Nat) : TParam := l.getD i default
theorem Iu {l : List TParam} {i : Nat} (h : i < l.length) : idx l (i : Int) = some (gP l i) := by
 rw [a8 h, gP, aee, As h]; rfl
def gC (l : List aR) (i : Nat) : aR := l.getD i default
theorem MU {l : List aR} {i : Nat} (h : i < l.length) : idx l (i : Int) = some (gC l i) := by
 rw [a8 h, gC, aee, As h]; rfl
def pX (s : ba) : Bool := (ef s).getD false
theorem R7 (s : ba) : ef s = some (pX s) := by obtain ⟨v, h, _⟩ := zM s; rw [pX, h]; rfl
theorem R8 (s : ba) : gq s = some (pX s) := by obtain ⟨v, h, h2⟩ := zM s; rw [pX, h, h2]; rfl
def Kc : ba := [116, 104, 105, 115]
def wm (l : List ba) (k : Nat) : Bool := (List.range k).any fun j => decide (gS l j = gS l k)
theorem xN {l : List ba} {k : Nat} : wm l k = true ↔ ∃ j, j < k ∧ gS l j = gS l k := by
 unfold wm
 rw [List.any_eq_true]
 constructor
 ·rintro ⟨j, h1, h2⟩; exact ⟨j, by simpa using h1, by simpa using h2⟩
 ·rintro ⟨j, h1, h2⟩; exact ⟨j, by simpa using h1, by simpa using h2⟩
def AA (l : List ba) (k : Nat) : Bool := !wm l k && pX (gS l k) && !decide (gS l k = Kc)
theorem TN (a0 : aC) (hn : a0.ar.length ≤ 2000000) : dV a0 [] 0 = some (if ie (AA a0.ar) 0 a0.ar.length = true then .inl () else .inr false) := by
 refine Az (L := fun l y => dV a0 l y) (AA a0.ar) a0.ar.length (fun l k => ∀ x, rF l x false = true ↔ ∃ j, j < k ∧ gS a0.ar j = x) (fun l k hk hi => ?_) (fun l hi => ?_) a0.ar.length 0 [] agi (aeE _) (fun x => ⟨fun h => by simp [rF, hJ] at h, fun ⟨j, h, _⟩ => absurd h (aeB _)⟩)
 ·have e : rF l (gS a0.ar k) false = wm a0.ar k := by
   rw [aeF, hi, xN]
  have : dV a0 l (k : Int) = if wm a0.ar k = true then some (.inr false) else if pX (gS a0.ar k) = true then (if gS a0.ar k = Kc then some (.inr false) else dV a0 (fp l (gS a0.ar k) true) ((k + 1 : Nat) : Int)) else some (.inr false) := by
   rw [dV, if_pos agi, Ee hk, sb, e, R7, sb, aS agi]; rfl
  simp only [this]
  unfold AA
  refine ⟨fun h => ?_, fun h => ?_⟩
  ·simp only [an, aeD, decide_eq_false_iff_not] at h
   obtain ⟨⟨h1, h2⟩, h3⟩ := h
   refine ⟨fp l (gS a0.ar k) true, fun x => ?_, by rw [if_neg (by rw [h1]; simp), if_pos h2, if_neg h3]⟩
   rw [wk]
   by_cases hx : x = gS a0.ar k
   ·rw [if_pos hx]; exact ⟨fun _ => ⟨k, by omega, hx.symm⟩, fun _ => rfl⟩
   ·rw [if_neg hx, hi]
    constructor
    ·rintro ⟨j, q1, q2⟩; exact ⟨j, by omega, q2⟩
    ·rintro ⟨j, q1, q2⟩
     rcases Nat.lt_succ_iff_lt_or_eq.1 q1 with q | rfl
     ·exact ⟨j, q, q2⟩
     ·exact absurd q2.symm hx
  ·by_cases h1 : wm a0.ar k = true
   ·rw [if_pos h1]
   ·rw [if_neg h1]
    by_cases h2 : pX (gS a0.ar k) = true
    ·rw [if_pos h2]
     by_cases h3 : gS a0.ar k = Kc
     ·rw [if_pos h3]
     ·simp [h1, h2, h3] at h
    ·rw [if_neg h2]
 ·show dV a0 l _ = _
  rw [dV, if_neg agi]
theorem Qm (a0 : aC) (l : List TParam) (hn : l.length ≤ a0.ar.length) (hs : a0.ar.length ≤ 2000000) :
  gr a0 l 0 = some (if ie (fun k => decide (gS a0.ar k = (gP l k).ao)) 0 l.length = true then .inl () else .inr false) := by
 refine ug (L := gr a0 l) _ _ (fun k hk => ?_) (by rw [gr, if_neg agi])
 rw [gr, if_pos agi, Iu hk, sb, Ee agi, sb, aS agi]
 refine ⟨fun h => by rw [if_pos agz], fun h => by rw [if_neg agz]⟩
def MV (a0 : aC) (k : Nat) : Bool := !decide ((gC a0.aq k).aW = 54) || a0.dk
theorem TO (a0 : aC) (hn : a0.aq.length ≤ 2000000) : gu a0 0 = some (if ie (MV a0) 0 a0.aq.length = true then .inl () else .inr false) := by
 refine ug (L := gu a0) _ _ (fun k hk => ?_) (by rw [gu, if_neg agi])
 rw [gu, if_pos agi, MU hk, sb, aS agi]
 unfold MV
 by_cases h1 : (gC a0.aq k).aW = 54
 ·rw [if_pos h1]
  cases hg : a0.dk <;> simp [h1, hg]
 ·rw [if_neg h1]; simp [h1]
theorem TP (a0 : aC) (hn : a0.aq.length ≤ 2000000) : gv a0 0 = some (if ie (MV a0) 0 a0.aq.length = true then .inl () else .inr false) := by
 refine ug (L := gv a0) _ _ (fun k hk => ?_) (by rw [gv, if_neg agi])
 rw [gv, if_pos agi, MU hk, sb, aS agi]
 unfold MV
 by_cases h1 : (gC a0.aq k).aW = 54
 ·rw [if_pos h1]
  cases hg : a0.dk <;> simp [h1, hg]
 ·rw [if_neg h1]; simp [h1]
theorem CY (a0 : aC) (x : ba) (hn : a0.ar.length ≤ 2000000) : ∀ (f k : Nat), a0.ar.length ≤ k + f → k ≤ a0.ar.length → ∃ o, lk a0 x (k : Int) = some o ∧
  ((∃ j : Nat, k ≤ j ∧ j < a0.ar.length ∧ gS a0.ar j = x ∧ (∀ m, k ≤ m → m < j → gS a0.ar m ≠ x) ∧ o = .inr (j : Int)) ∨ ((∀ j, k ≤ j → j < a0.ar.length → gS a0.ar j ≠ x) ∧ o = .inl ()))
 | f, k, hf, hk => by
  rw [lk]
  by_cases hc : k < a0.ar.length
  ·rw [if_pos agi, Ee hc, sb]
   by_cases hx : gS a0.ar k = x
   ·rw [if_pos hx]
    exact ⟨_, rfl, .inl ⟨k, aeb _, hc, hx, fun m h1 h2 => absurd h2 agi, rfl⟩⟩
   ·obtain ⟨g, rfl⟩ : ∃ g, f = g + 1 := ⟨f - 1, by omega⟩
    rw [if_neg hx, aS agi]
    obtain ⟨o, e, h⟩ := CY a0 x hn g (k + 1) agi agi
    refine ⟨o, e, ?_⟩
    rcases h with ⟨j, h1, h2, h3, h4, h5⟩ | ⟨h1, h2⟩
    ·refine .inl ⟨j, by omega, h2, h3, fun m q1 q2 => ?_, h5⟩
     rcases Nat.eq_or_lt_of_le q1 with rfl | q
     ·exact hx
     ·exact h4 m q q2
    ·refine .inr ⟨fun j q1 q2 => ?_, h2⟩
     rcases Nat.eq_or_lt_of_le q1 with rfl | q
     ·exact hx
     ·exact h1 j q q2
  ·rw [if_neg agi]
   exact ⟨_, rfl, .inr ⟨fun j q1 q2 => absurd q2 agi, rfl⟩⟩
theorem K2 (a0 : aC) (hn : a0.ar.length ≤ 2000000) {k : Nat} (hk : k < a0.ar.length) : ∃ v, pk a0 (gS a0.ar k) = some v ∧ (v = (k : Int) ↔ wm a0.ar k = false) := by
 unfold pk
 obtain ⟨o, e, h⟩ := CY a0 (gS a0.ar k) hn a0.ar.length 0 agi agi
 rw [show ((0 : Nat) : Int) = 0 from rfl] at e
 rw [e, sb]
 rcases h with ⟨j, h1, h2, h3, h4, rfl⟩ | ⟨h1, rfl⟩
 ·refine ⟨_, rfl, ?_⟩
  have MW : j ≤ k := by
   rcases aeK k j with q | q
   ·exact absurd rfl (h4 k (aeE _) q)
   ·exact q
  constructor
  ·intro h
   have : j = k := by omega
   subst this
   cases hs : wm a0.ar j
   ·rfl
   ·obtain ⟨m, q1, q2⟩ := xN.1 hs
    exact absurd q2 (h4 m (aeE _) q1)
  ·intro h
   rcases Nat.eq_or_lt_of_le MW with q | q
   ·rw [q]
   ·rw [xN.2 ⟨j, q, h3⟩] at h; cases h
 ·exact absurd rfl (h1 k (aeE _) hk)
def Iv (a0 : aC) (k : Nat) : Bool := AA a0.ar k && (!decide (k < a0.ak.length) || decide ((gP a0.ak k).ao = gS a0.ar k)) &&
 (!decide (a0.ak.length ≤ k ∧ k - a0.ak.length < a0.aE.length) || decide ((gP a0.aE (k - a0.ak.length)).ao = gS a0.ar k))
theorem TQ (a0 : aC) (hn : a0.ar.length ≤ 2000000) (hp : a0.ak.length ≤ 2000000) (hu : a0.aE.length ≤ 2000000) : bS a0 0 = some (if ie (Iv a0) 0 a0.ar.length = true then .inl () else .inr false) := by
 refine ug (L := bS a0) _ _ (fun k hk => ?_) (by rw [bS, if_neg agi])
 obtain ⟨v, ev, hv⟩ := K2 a0 hn hk
 have key : bS a0 (k : Int) = if Iv a0 k = true then bS a0 ((k + 1 : Nat) : Int) else some (.inr false) := by
  rw [bS, if_pos agi, Ee hk, sb, R8, sb, aS agi]
  unfold Iv AA
  cases hg : pX (gS a0.ar k)
  ·rw [if_neg agk]; simp
  rw [if_pos rfl]
  by_cases ht : gS a0.ar k = Kc
  ·have : gS a0.ar k = ([116, 104, 105, 115] : ba) := ht
   rw [if_pos this]; simp [ht]
  have XU : ¬ gS a0.ar k = ([116, 104, 105, 115] : ba) := ht
  rw [if_neg XU, ev, sb, decide_eq_false ht]
  cases hs : wm a0.ar k
  ·rw [if_pos (hv.2 hs)]
   by_cases h1 : k < a0.ak.length
   ·rw [if_pos (show (k : Int) < (a0.ak.length : Int) by omega), Iu h1, sb, decide_eq_true h1]
    rw [decide_eq_false (show ¬ (a0.ak.length ≤ k ∧ k - a0.ak.length < a0.aE.length) by omega)]
    by_cases h2 : (gP a0.ak k).ao = gS a0.ar k
    ·rw [if_pos h2, if_neg agi, decide_eq_true h2]; rfl
    ·rw [if_neg h2, decide_eq_false h2]; rfl
   ·rw [if_neg (show ¬ (k : Int) < (a0.ak.length : Int) by omega), if_pos (show (k : Int) ≥ (a0.ak.length : Int) by omega), decide_eq_false h1]
    rw [Ge (x := (k : Int) - (a0.ak.length : Int)) (n := k - a0.ak.length) agi agi]
    by_cases h3 : k - a0.ak.length < a0.aE.length
    ·rw [if_pos agi, Iu h3, sb, decide_eq_true (show a0.ak.length ≤ k ∧ k - a0.ak.length < a0.aE.length from ⟨by omega, h3⟩)]
     by_cases h2 : (gP a0.aE (k - a0.ak.length)).ao = gS a0.ar k
     ·rw [if_pos h2, decide_eq_true h2]; rfl
     ·rw [if_neg h2, decide_eq_false h2]; rfl
    ·rw [if_neg agi, decide_eq_false (show ¬ (a0.ak.length ≤ k ∧ k - a0.ak.length < a0.aE.length) by omega)]; rfl
  ·rw [if_neg (fun h => by rw [hv.1 h] at hs; cases hs)]; rfl
 exact ⟨fun h => by rw [key, if_pos h], fun h => by rw [key, if_neg (by rw [h]; simp)]⟩
theorem Iw (a b : List TParam) (k : Nat) : gP (a ++ b) k = if k < a.length then gP a k else gP b (k - a.length) := by
 unfold gP
 rw [aee, aee, aee]
 by_cases h : k < a.length
 ·rw [if_pos h, aeA h]
 ·rw [if_neg h, aeu agi]
theorem MX (a0 : aC) (hp : a0.ak.length + a0.aE.length ≤ a0.ar.length) :
  ie (Iv a0) 0 a0.ar.length = (ie (AA a0.ar) 0 a0.ar.length && ie (fun k => decide (gS a0.ar k = (gP (a0.ak ++ a0.aE) k).ao)) 0 (a0.ak ++ a0.aE).length) := by
 rw [aeF, an, nI, nI, nI]
 constructor
 ·intro h
  refine ⟨fun i h1 h2 => ?_, fun i h1 h2 => ?_⟩
  ·have := h i h1 h2
   unfold Iv at this
   simp only [an] at this
   exact this.1.1
  ·rw [An] at h2
   have := h i h1 agi
   unfold Iv at this
   simp only [an, aeH, aeD, decide_eq_false_iff_not, decide_eq_true_eq] at this
   rw [Iw, decide_eq_true_eq]
   by_cases hc : i < a0.ak.length
   ·rw [if_pos hc]
    exact (this.1.2.resolve_left (fun q => q hc)).symm
   ·rw [if_neg hc]
    exact (this.2.resolve_left (fun q => q ⟨by omega, by omega⟩)).symm
 ·rintro ⟨h1, h2⟩ i h3 h4
  unfold Iv
  simp only [an, aeH, aeD, decide_eq_false_iff_not, decide_eq_true_eq]
  refine ⟨⟨h1 i h3 h4, ?_⟩, ?_⟩
  ·by_cases hc : i < a0.ak.length
   ·right
    have := h2 i h3 agI
    rw [Iw, decide_eq_true_eq, if_pos hc] at this
    exact this.symm
   ·exact .inl hc
  ·by_cases hc : a0.ak.length ≤ i ∧ i - a0.ak.length < a0.aE.length
   ·right
    have := h2 i h3 agI
    rw [Iw, decide_eq_true_eq, if_neg agi] at this
    exact this.symm
   ·exact .inl hc
theorem MY (a0 : aC) : ∃ b, jx a0 = some b ∧ ko a0 = some b := by
 unfold jx m66 ko
 cases hs : a0.ao with
 | nil => exact ⟨false, rfl, rfl⟩
 | cons c r =>
  have e2 : vn (c :: r) 0 = some c := by
   have := tn (s := c :: r) (i := 0) agk
   exact this
  rw [sb, if_pos agk, e2, sb]
  refine ⟨_, rfl, ?_⟩
  congr 1
  unfold Lib.hasPrefix
  rw [aeF, beq_iff_eq]
  constructor
  ·intro h
   have h1 : c = 47 := UInt8.toNat_inj.1 (by show c.toNat = 47; omega)
   subst h1; simp
  ·intro h
   have h1 : c = 47 := by simpa [List.isPrefixOf] using Eq.symm (by simpa [List.isPrefixOf] using h)
   rw [h1]; rfl
theorem CZ (a0 : aC) (hc : a0.aq.length ≤ 2000000) (hs : a0.ar.length ≤ 2000000) (hp : a0.ak.length ≤ 2000000) (hu : a0.aE.length ≤ 2000000) (Qn : a0.ao.length ≤ 2000000) :
  ∃ b, hU a0 = some b ∧ lA a0 = some b ∧ (b = true → ∃ l, eZ a0 = some (l, true) ∧ jL a0 = some (l, true) ∧ l.length = a0.aq.length ∧
   (∀ i (hi : i < a0.aq.length), CX (a0.aq[i]).aW = true → 0 ≤ (a0.aq[i]).fA ∧ (a0.aq[i]).fA < a0.aq.length)) := by
 unfold hU lA oB
 obtain ⟨l, b, e1, e2, de, jr⟩ := heights a0 hc
 obtain ⟨tb, t1, t2⟩ := MY a0
 rw [mv, sb, ql, sb]
 by_cases h1 : (1 : Int) ≤ (a0.ao.length : Int) ∧ (a0.ao.length : Int) ≤ 100
 case neg =>
  have hd : ¬ decide ((1 : Int) ≤ (a0.ao.length : Int) ∧ (a0.ao.length : Int) ≤ 100) = true := by simpa using h1
  rw [if_neg hd, if_neg hd]
  exact ⟨_, rfl, rfl, fun h => by cases h⟩
 have hd : decide ((1 : Int) ≤ (a0.ao.length : Int) ∧ (a0.ao.length : Int) ≤ 100) = true := by simpa using h1
 rw [if_pos hd, if_pos hd]
 by_cases h2 : (a0.ar.length : Int) > 600
 ·rw [if_pos h2]
  refine ⟨false, rfl, ?_, fun h => by cases h⟩
  by_cases h3 : (a0.aq.length : Int) > 8000
  ·rw [if_pos h3]; rfl
  ·rw [if_neg h3, if_pos h2]; rfl
 rw [if_neg h2, if_neg h2]
 by_cases h3 : (a0.aq.length : Int) > 8000
 ·rw [if_pos h3, if_pos h3]
  exact agh
 rw [if_neg h3, if_neg h3]
 have ew : ah ((a0.ak.length : Int) + (a0.aE.length : Int)) = ((a0.ak.length + a0.aE.length : Nat) : Int) := Ge agi agi
 rw [ew]
 by_cases h4 : ((a0.ak.length + a0.aE.length : Nat) : Int) > (a0.ar.length : Int)
 ·rw [if_pos h4, if_pos h4]
  exact agh
 rw [if_neg h4, if_neg h4, TN a0 hs, TQ a0 hs hp hu, MX a0 agi]
 have eC : tq a0.ak = some a0.ak := by
  unfold tq
  rw [np ago, sb, aeS]
 have eA : kV 24 a0.ak a0.aE = some (a0.ak ++ a0.aE) := np agi
 have eP : (some a0.ak >>= fun v28 => kV 24 v28 a0.aE >>= fun sA => gr a0 sA 0) = some (if ie (fun k => decide (gS a0.ar k = (gP (a0.ak ++ a0.aE) k).ao)) 0 (a0.ak ++ a0.aE).length = true then .inl () else .inr false) := by
  rw [sb, eA, sb, Qm a0 _ agI hs]
 rw [eC, eP, TO a0 hc, TP a0 hc, t1, t2, e1, e2]
 generalize ie (AA a0.ar) 0 a0.ar.length = A
 generalize ie (fun k => decide (gS a0.ar k = (gP (a0.ak ++ a0.aE) k).ao)) 0 (a0.ak ++ a0.aE).length = B
 generalize ie (MV a0) 0 a0.aq.length = Y
 cases A
 ·exact agh
 cases B
 ·exact agh
 cases Y
 ·refine ⟨false, rfl, ?_, fun h => by cases h⟩
  cases tb
  ·rfl
  ·by_cases h5 : 0 < a0.ar.length
   ·simp [sb, h5]
   ·cases hg : a0.dk <;> simp [sb, h5, hg]
 have XV : b = true → ∃ l_1, some (l, b) = some (l_1, true) ∧ some (l, b) = some (l_1, true) ∧ l_1.length = a0.aq.length ∧
   (∀ i (hi : i < a0.aq.length), CX (a0.aq[i]).aW = true → 0 ≤ (a0.aq[i]).fA ∧ (a0.aq[i]).fA < a0.aq.length) := fun h => by
  subst h
  exact ⟨l, rfl, rfl, (jr rfl).1, (jr rfl).2⟩
 cases tb
 ·exact ⟨b, rfl, rfl, XV⟩
 ·by_cases h5 : 0 < a0.ar.length
  ·refine ⟨false, ?_, ?_, fun h => by cases h⟩ <;> simp [sb, h5]
  ·cases hg : a0.dk
   ·refine ⟨b, ?_, ?_, XV⟩ <;> simp [sb, h5, hg]
   ·refine ⟨false, ?_, ?_, fun h => by cases h⟩ <;> simp [sb, h5, hg]
theorem TR {x : aR} {a b : Int} (h : jw x a b = some true) (ha : a ≤ 1000000000000) (hb : b ≤ 1000000000000) : 0 ≤ x.fA ∧ x.fA ≤ 1000000000000 := by
 unfold jw at h
 simp only [mv, sb] at h
 by_cases h1 : x.aW = 2
 ·rw [if_pos h1] at h
  have := of_decide_eq_true (aeq h)
  omega
 rw [if_neg h1] at h
 obtain ⟨v, _, h⟩ := bd h
 by_cases h2 : v = true
 ·rw [if_pos h2] at h
  have := of_decide_eq_true (aeq h)
  omega
 rw [if_neg h2] at h
 by_cases h3 : x.aW = 12
 ·rw [if_pos h3] at h
  have := of_decide_eq_true (aeq h)
  omega
 rw [if_neg h3] at h
 obtain ⟨v, _, h⟩ := bd h
 by_cases h4 : v = true
 ·rw [if_pos h4] at h
  by_cases h5 : x.fA ≥ 0
  ·rw [if_pos h5] at h
   have := of_decide_eq_true (aeq h)
   omega
  ·rw [if_neg h5] at h; cases h
 rw [if_neg h4] at h
 obtain ⟨v, _, h⟩ := bd h
 by_cases h6 : v = true
 ·rw [if_pos h6] at h
  by_cases h5 : x.fA ≥ 0
  ·rw [if_pos h5] at h
   have := of_decide_eq_true (aeq h)
   omega
  ·rw [if_neg h5] at h; cases h
 rw [if_neg h6] at h
 have := eq_of_beq (aeq h)
 omega
theorem TS {x : aR} {a : Int} (h : kM x a = some true) (ha : a ≤ 1000000000000) : 0 ≤ x.fB ∧ x.fB ≤ 1000000000000 := by
 unfold kM at h
 simp only [mv, sb] at h
 obtain ⟨v, _, h⟩ := bd h
 by_cases h2 : v = true
 ·rw [if_pos h2] at h
  have := of_decide_eq_true (aeq h)
  omega
 rw [if_neg h2] at h
 obtain ⟨v, _, h⟩ := bd h
 by_cases h3 : v = true
 ·rw [if_pos h3] at h
  have := of_decide_eq_true (aeq h)
  omega
 rw [if_neg h3] at h
 obtain ⟨v, _, h⟩ := bd h
 by_cases h4 : v = true
 ·rw [if_pos h4] at h
  have := of_decide_eq_true (aeq h)
  omega
 rw [if_neg h4] at h
 by_cases h5 : x.aW = 24
 ·rw [if_pos h5] at h
  by_cases h6 : x.fB ≥ 0
  ·rw [if_pos h6] at h
   have := of_decide_eq_true (aeq h)
   omega
  ·rw [if_neg h6] at h; cases h
 rw [if_neg h5] at h
 by_cases h6 : x.aW = 49
 ·rw [if_pos h6] at h
  have := of_decide_eq_true (aeq h)
  omega
 rw [if_neg h6] at h
 have := eq_of_beq (aeq h)
 omega
def K3 (x : aR) : Prop := (0 ≤ x.aW ∧ x.aW ≤ 1000000000000) ∧ (0 ≤ x.fA ∧ x.fA ≤ 1000000000000) ∧ 0 ≤ x.fB ∧ x.fB ≤ 1000000000000
theorem MZ {x : aR} {a b : Int} (h : fK x a b = some true) (ha : a ≤ 1000000000000) (hb : b ≤ 1000000000000) : K3 x := by
 unfold fK lL at h
 simp only [mv, sb] at h
 by_cases h1 : decide (1 ≤ x.aW ∧ x.aW ≤ 56) = true
 ·rw [if_pos h1] at h
  have h1 := of_decide_eq_true h1
  obtain ⟨v, e1, h⟩ := bd h
  by_cases h2 : v = true
  ·rw [if_pos h2] at h
   obtain ⟨u, e2, h⟩ := bd h
   by_cases h3 : u = true
   ·subst h2 h3
    exact ⟨by omega, TR e1 ha hb, TS e2 ha⟩
   ·rw [if_neg h3] at h; cases h
  ·rw [if_neg h2] at h; cases h
 ·rw [if_neg h1] at h; cases h
theorem Gj {f : aC} (hc : f.aq.length ≤ 2000000) {l : List Int} (h : eZ f = some (l, true)) : ∀ x ∈ f.aq, fK x (f.ar.length : Int) (f.aq.length : Int) = some true := by
 have go : ∀ m i : Nat, i ≤ f.aq.length → f.aq.length - i = m → ∀ (q : List Int) (o : List Int), cR f q (i : Int) = some (.inl o) → ∀ j, i ≤ j → ∀ hj : j < f.aq.length, fK f.aq[j] (f.ar.length : Int) (f.aq.length : Int) = some true := by
  intro m
  induction m with
  | zero => intro i h1 h2 q o _ j h3 hj; omega
  | succ m ihm =>
   intro i h1 h2 q o h j h3 hj
   have bP : i < f.aq.length := by omega
   rw [cR, if_pos agi, a8 bP, sb] at h
   obtain ⟨v, e1, h⟩ := bd h
   by_cases hv : v = true
   ·rw [if_pos hv] at h
    obtain ⟨y, _, h⟩ := bd h
    rw [aS agi] at h
    by_cases iN : j = i
    ·subst iN; rw [hv] at e1; exact e1
    ·exact ihm (i + 1) agi agi _ o h j agi hj
   ·rw [if_neg hv] at h; cases h
 unfold eZ at h
 by_cases h0 : (f.aq.length : Int) = 0
 ·rw [if_pos h0] at h; cases h
 rw [if_neg h0] at h
 obtain ⟨q, _, h⟩ := bd h
 obtain ⟨o, e1, h⟩ := bd h
 intro x hx
 obtain ⟨j, hj, rfl⟩ := afi hx
 cases o with
 | inr r =>
  exfalso
  cases h
  have bad : ∀ m i : Nat, i ≤ f.aq.length → f.aq.length - i = m → ∀ q : List Int, ∀ r, cR f q (i : Int) = some (.inr (r, true)) → False := by
   intro m
   induction m with
   | zero => intro i h1 h2 q r h; rw [cR, if_neg agi] at h; cases h
   | succ m ihm =>
    intro i h1 h2 q r h
    have bP : i < f.aq.length := by omega
    rw [cR, if_pos agi, a8 bP, sb] at h
    obtain ⟨v, e1, h⟩ := bd h
    by_cases hv : v = true
    ·rw [if_pos hv] at h
     obtain ⟨y, _, h⟩ := bd h
     rw [aS agi] at h
     exact ihm (i + 1) agi agi _ _ h
    ·rw [if_neg hv] at h; cases h
  exact bad _ 0 agi rfl _ _ e1
 | inl o => exact go _ 0 agi rfl _ o e1 j (aeE _) hj
theorem K4 {f : aC} (hc : f.aq.length ≤ 2000000) (hp : f.ak.length ≤ 2000000) (hu : f.aE.length ≤ 2000000) (h : hU f = some true) : f.ao.length ≤ 100 ∧ f.ar.length ≤ 600 ∧ f.aq.length ≤ 8000 ∧ f.ak.length + f.aE.length ≤ f.ar.length ∧ ∀ x ∈ f.aq, K3 x := by
 have h9 := h
 unfold hU at h
 rw [mv, sb] at h
 by_cases h1 : (1 : Int) ≤ (f.ao.length : Int) ∧ (f.ao.length : Int) ≤ 100
 case neg =>
  have hd : ¬ decide ((1 : Int) ≤ (f.ao.length : Int) ∧ (f.ao.length : Int) ≤ 100) = true := by simpa using h1
  rw [if_neg hd] at h; cases h
 have hd : decide ((1 : Int) ≤ (f.ao.length : Int) ∧ (f.ao.length : Int) ≤ 100) = true := by simpa using h1
 rw [if_pos hd] at h
 by_cases h2 : (f.ar.length : Int) > 600
 ·rw [if_pos h2] at h; cases h
 rw [if_neg h2] at h
 by_cases h3 : (f.aq.length : Int) > 8000
 ·rw [if_pos h3] at h; cases h
 rw [if_neg h3] at h
 have ew : ah ((f.ak.length : Int) + (f.aE.length : Int)) = ((f.ak.length + f.aE.length : Nat) : Int) := Ge agi agi
 rw [ew] at h
 by_cases h4 : ((f.ak.length + f.aE.length : Nat) : Int) > (f.ar.length : Int)
 ·rw [if_pos h4] at h; cases h
 obtain ⟨b, e1, e2, e3⟩ := CZ f hc agi hp hu agi
 rw [h9] at e1
 cases e1
 obtain ⟨l, q1, _⟩ := e3 rfl
 exact ⟨by omega, by omega, by omega, by omega, fun x hx => MZ (Gj hc q1 x hx) agi agi⟩
structure FB (f : aC) : Prop where
 nm : f.ao.length ≤ 2000000
 ps : f.ak.length ≤ 2000000
 us : f.aE.length ≤ 2000000
 sl : f.ar.length ≤ 2000000
 cd : f.aq.length ≤ 2000000
structure CB (c : aw) : Prop where
 fs : c.aA.length ≤ 2000000
 ms : c.av.length ≤ 2000000
 iw : ∀ x ∈ c.aA, x.aH.wt ≤ 2000000
 mn : ∀ m ∈ c.av, m.fh.length ≤ 2000000 ∧ m.ao.length ≤ 2000000
structure PB (p : aD) : Prop where
 fl : p.aG.length ≤ 2000000
 cl : p.ay.length ≤ 2000000
 fb : ∀ f ∈ p.aG, FB f
 cb : ∀ c ∈ p.ay, CB c
theorem uh {σ R : Type} {L : σ → Int → Option R} (c : Nat → Bool) (n : Nat) (T F : R) (I : σ → Nat → Prop)
  (hs : ∀ s k, k < n → I s k → (c k = true → ∃ s', I s' (k + 1) ∧ L s (k : Int) = L s' ((k + 1 : Nat) : Int)) ∧ (c k = false → L s (k : Int) = some F))
  (he : ∀ s, I s n → L s (n : Int) = some T) : ∀ (f k : Nat) (s : σ), n ≤ k + f → k ≤ n → I s k → L s (k : Int) = some (if ie c k n = true then T else F)
 | f, k, s, hf, hk, hi => by
  by_cases hc : k < n
  ·obtain ⟨g, rfl⟩ : ∃ g, f = g + 1 := ⟨f - 1, by omega⟩
   obtain ⟨h1, h2⟩ := hs s k hc hi
   rw [xM hc]
   cases K1 : c k
   ·rw [h2 K1, afe, if_neg agk]
   ·obtain ⟨s', q1, q2⟩ := h1 K1
    rw [q2, aeW]
    exact uh c n T F I hs he g (k + 1) s' agi agi q1
  ·have : k = n := by omega
   subst this
   rw [he s hi, if_pos Ay]
theorem lB {R : Type} {L : Int → Option R} (c : Nat → Bool) (n : Nat) (T F : R)
  (hs : ∀ k, k < n → (c k = true → L (k : Int) = L ((k + 1 : Nat) : Int)) ∧ (c k = false → L (k : Int) = some F))
  (he : L (n : Int) = some T) : L 0 = some (if ie c 0 n = true then T else F) :=
 uh (σ := Unit) (L := fun _ => L) c n T F (fun _ _ => True) (fun s k hk _ => ⟨fun h => ⟨(), trivial, (hs k hk).1 h⟩, (hs k hk).2⟩) (fun _ _ => he) n 0 () agi (aeE _) trivial
def gF (p : aD) (i : Nat) : aC := p.aG.getD i default
def gK (p : aD) (i : Nat) : aw := p.ay.getD i default
def gD (c : aw) (i : Nat) : aB := c.aA.getD i default
def gM (c : aw) (i : Nat) : ax := c.av.getD i default
theorem wo {α : Type} [Inhabited α] {l : List α} {i : Nat} (h : i < l.length) : l.getD i default = l[i] := by rw [aee, As h]; rfl
theorem C0 {α : Type} [Inhabited α] {l : List α} {i : Nat} (h : i < l.length) : idx l (i : Int) = some (l.getD i default) := by rw [a8 h, wo h]
theorem K5 {p : aD} {i : Nat} (h : i < p.aG.length) : idx p.aG (i : Int) = some (gF p i) := C0 h
theorem TT {p : aD} {i : Nat} (h : i < p.ay.length) : idx p.ay (i : Int) = some (gK p i) := C0 h
theorem Qo {c : aw} {i : Nat} (h : i < c.aA.length) : idx c.aA (i : Int) = some (gD c i) := C0 h
theorem XW {c : aw} {i : Nat} (h : i < c.av.length) : idx c.av (i : Int) = some (gM c i) := C0 h
theorem yz {α : Type} [Inhabited α] {l : List α} {i : Nat} (h : i < l.length) : l.getD i default ∈ l := by rw [wo h]; exact aef h
def Gk (q : Nat → Bool) (k : Nat) : Bool := (List.range k).any q
theorem mW {q : Nat → Bool} {k : Nat} : Gk q k = true ↔ ∃ j, j < k ∧ q j = true := by
 unfold Gk
 rw [List.any_eq_true]
 constructor
 ·rintro ⟨j, h1, h2⟩; exact ⟨j, by simpa using h1, h2⟩
 ·rintro ⟨j, h1, h2⟩; exact ⟨j, by simpa using h1, h2⟩
theorem findF (p : aD) (s : ba) (hl : p.aG.length ≤ 2000000) : ∃ r, e7 p s = some r ∧ ((r = -1 ∧ ∀ j, j < p.aG.length → (gF p j).ao ≠ s) ∨ ∃ j : Nat, j < p.aG.length ∧ r = (j : Int) ∧ (gF p j).ao = s ∧ ∀ i, i < j → (gF p i).ao ≠ s) := by
 have go : ∀ m i : Nat, i ≤ p.aG.length → p.aG.length - i = m → (∀ j, j < i → (gF p j).ao ≠ s) → ∃ o, fR p s (i : Int) = some o ∧ ((o = .inl () ∧ ∀ j, j < p.aG.length → (gF p j).ao ≠ s) ∨ ∃ j : Nat, j < p.aG.length ∧ o = .inr (j : Int) ∧ (gF p j).ao = s ∧ ∀ i, i < j → (gF p i).ao ≠ s) := by
  intro m
  induction m with
  | zero =>
   intro i h1 h2 h3
   rw [fR, if_neg agi]
   exact ⟨_, rfl, .inl ⟨rfl, fun j hj => h3 j agi⟩⟩
  | succ m ihm =>
   intro i h1 h2 h3
   have bP : i < p.aG.length := by omega
   rw [fR, if_pos agi, K5 bP, sb]
   by_cases hc : (gF p i).ao = s
   ·rw [if_pos hc]; exact ⟨_, rfl, .inr ⟨i, bP, rfl, hc, h3⟩⟩
   ·rw [if_neg hc, aS agi]
    exact ihm (i + 1) agi agi (fun j hj => by
     by_cases iN : j = i
     ·subst iN; exact hc
     ·exact h3 j agi)
 obtain ⟨o, e, h⟩ := go _ 0 (aeE _) rfl (fun j hj => absurd hj (aeB _))
 replace e : fR p s 0 = some o := e
 unfold e7
 rw [e, sb]
 rcases h with ⟨rfl, h⟩ | ⟨j, h1, rfl, h2, h3⟩
 ·exact ⟨_, rfl, .inl ⟨rfl, h⟩⟩
 ·exact ⟨_, rfl, .inr ⟨j, h1, rfl, h2, h3⟩⟩
theorem XX (p : aD) (s : ba) (hl : p.ay.length ≤ 2000000) : ∃ r, jM p.ay s = some r ∧ ((r = -1 ∧ ∀ j, j < p.ay.length → (gK p j).ao ≠ s) ∨ ∃ j : Nat, j < p.ay.length ∧ r = (j : Int) ∧ (gK p j).ao = s ∧ ∀ i, i < j → (gK p i).ao ≠ s) := by
 have go : ∀ m i : Nat, i ≤ p.ay.length → p.ay.length - i = m → (∀ j, j < i → (gK p j).ao ≠ s) → ∃ o, eQ p.ay s (i : Int) = some o ∧ ((o = .inl () ∧ ∀ j, j < p.ay.length → (gK p j).ao ≠ s) ∨ ∃ j : Nat, j < p.ay.length ∧ o = .inr (j : Int) ∧ (gK p j).ao = s ∧ ∀ i, i < j → (gK p i).ao ≠ s) := by
  intro m
  induction m with
  | zero =>
   intro i h1 h2 h3
   rw [eQ, if_neg agi]
   exact ⟨_, rfl, .inl ⟨rfl, fun j hj => h3 j agi⟩⟩
  | succ m ihm =>
   intro i h1 h2 h3
   have bP : i < p.ay.length := by omega
   rw [eQ, if_pos agi, TT bP, sb]
   by_cases hc : (gK p i).ao = s
   ·rw [if_pos hc]; exact ⟨_, rfl, .inr ⟨i, bP, rfl, hc, h3⟩⟩
   ·rw [if_neg hc, aS agi]
    exact ihm (i + 1) agi agi (fun j hj => by
     by_cases iN : j = i
     ·subst iN; exact hc
     ·exact h3 j agi)
 obtain ⟨o, e, h⟩ := go _ 0 (aeE _) rfl (fun j hj => absurd hj (aeB _))
 replace e : eQ p.ay s 0 = some o := e
 unfold jM
 rw [e, sb]
 rcases h with ⟨rfl, h⟩ | ⟨j, h1, rfl, h2, h3⟩
 ·exact ⟨_, rfl, .inl ⟨rfl, h⟩⟩
 ·exact ⟨_, rfl, .inr ⟨j, h1, rfl, h2, h3⟩⟩
def R9 (f : aC) : Bool := (hU f).getD false
theorem Ix {f : aC} (h : FB f) : hU f = some (R9 f) ∧ lA f = some (R9 f) := by
 obtain ⟨b, e1, e2, _⟩ := CZ f h.cd h.sl h.ps h.us h.nm
 unfold R9
 rw [e1, e2]
 exact ⟨rfl, rfl⟩
def yA (p : aD) (k : Nat) : Bool := Gk (fun j => decide ((gF p j).ao = (gF p k).ao)) k
def uW (p : aD) (k : Nat) : Bool := !yA p k && R9 (gF p k)
theorem TU {p : aD} (h : PB p) : dp p 0 = some (if ie (uW p) 0 p.aG.length = true then .inl () else .inr false) := by
 have yB := h.fl
 refine lB (L := dp p) _ _ _ _ (fun k hk => ?_) (by rw [dp, if_neg agi])
 have hfb : FB (gF p k) := h.fb _ (yz hk)
 obtain ⟨r, e, hr⟩ := findF p (gF p k).ao h.fl
 have XY : r = (k : Int) ↔ yA p k = false := by
  rw [Bool.eq_false_iff, Ne, yA, mW]
  rcases hr with ⟨rfl, hn⟩ | ⟨j, h1, rfl, h2, h3⟩
  ·exact absurd rfl (hn k hk)
  ·constructor
   ·intro MW
    rintro ⟨i, q1, q2⟩
    exact h3 i agi (by simpa using q2)
   ·intro hn
    by_cases MW : j = k
    ·rw [MW]
    ·exfalso
     by_cases bP : j < k
     ·exact hn ⟨j, bP, by simpa using h2⟩
     ·exact h3 k agi rfl
 have this : dp p (k : Int) = if r = (k : Int) then (if R9 (gF p k) = true then dp p ((k + 1 : Nat) : Int) else some (.inr false)) else some (.inr false) := by
  rw [dp, if_pos agi, K5 hk, sb]
  show (e7 p (gF p k).ao >>= _) = _
  rw [e, sb, sb]
  show (if r = (k : Int) then (lA (gF p k) >>= _) else _) = _
  rw [(Ix hfb).2, sb, aS agi]
 rw [this]
 unfold uW
 refine ⟨fun hc => ?_, fun hc => ?_⟩
 ·simp only [an, aeD] at hc
  rw [if_pos (XY.2 hc.1), if_pos hc.2]
 ·by_cases h1 : r = (k : Int)
  ·rw [if_pos h1]
   by_cases h2 : R9 (gF p k) = true
   ·rw [XY.1 h1, h2] at hc; cases hc
   ·rw [if_neg h2]
  ·rw [if_neg h1]
def MF (p : aD) (l : List (ba × Int)) (k : Nat) : Prop := ∀ x, (∀ j, j < k → (gF p j).ao = x → hJ l x = some (j : Int)) ∧ ((∀ j, j < k → (gF p j).ao ≠ x) → hJ l x = none)
theorem TV {p : aD} (h : PB p) : ∃ o, eR p [] 0 = some o ∧ ((ie (uW p) 0 p.aG.length = true ∧ ∃ l, o = .inl l ∧ MF p l p.aG.length) ∨ (ie (uW p) 0 p.aG.length = false ∧ o = .inr false)) := by
 have yB := h.fl
 have go : ∀ m k : Nat, k ≤ p.aG.length → p.aG.length - k = m → ∀ l, MF p l k → ∃ o, eR p l (k : Int) = some o ∧ ((ie (uW p) k p.aG.length = true ∧ ∃ l, o = .inl l ∧ MF p l p.aG.length) ∨ (ie (uW p) k p.aG.length = false ∧ o = .inr false)) := by
  intro m
  induction m with
  | zero =>
   intro k h1 h2 l hl
   have hk : k = p.aG.length := by omega
   rw [eR, if_neg agi]
   subst hk
   exact ⟨_, rfl, .inl ⟨Ay, l, rfl, hl⟩⟩
  | succ m ihm =>
   intro k h1 h2 l hl
   have hk : k < p.aG.length := by omega
   have hfb : FB (gF p k) := h.fb _ (yz hk)
   have abb : sM l (gF p k).ao = yA p k := by
    rw [aeF, yA, mW, sM]
    obtain ⟨a1, a2⟩ := hl (gF p k).ao
    constructor
    ·intro hq
     refine Classical.byContradiction fun wq => ?_
     rw [a2 (fun j hj he => wq ⟨j, hj, by simpa using he⟩)] at hq
     cases hq
    ·rintro ⟨j, hj, he⟩
     rw [a1 j hj (by simpa using he)]; rfl
   rw [eR, if_pos agi, K5 hk, sb, xM hk]
   show ∃ o, (if sM l (gF p k).ao = true then _ else (hU (gF p k) >>= _)) = some o ∧ _
   rw [abb, (Ix hfb).1, sb]
   rw [show uW p k = (!yA p k && R9 (gF p k)) from rfl]
   cases Qp : yA p k with
   | true => rw [if_pos rfl]; exact ⟨_, rfl, .inr ⟨by simp, rfl⟩⟩
   | false =>
    rw [if_neg agj]
    cases hf : R9 (gF p k) with
    | false => rw [if_neg agj]; exact ⟨_, rfl, .inr ⟨by simp, rfl⟩⟩
    | true =>
     rw [if_pos rfl, aS agi]
     obtain ⟨o, e, ho⟩ := ihm (k + 1) agi agi (fp l (gF p k).ao (k : Int)) (fun x => by
      obtain ⟨a1, a2⟩ := hl x
      refine ⟨fun j hj he => ?_, fun hn => ?_⟩
      ·rw [ui]
       by_cases hx : x = (gF p k).ao
       ·rw [if_pos hx]
        by_cases MW : j = k
        ·rw [MW]
        ·exfalso
         have : yA p k = true := mW.2 ⟨j, by omega, by simp [he, hx]⟩
         rw [Qp] at this; cases this
       ·rw [if_neg hx]
        by_cases MW : j = k
        ·subst MW; exact absurd he.symm hx
        ·exact a1 j agi he
      ·rw [ui, if_neg (fun hx => hn k agi hx.symm)]
       exact a2 (fun j hj => hn j agi))
     refine ⟨o, e, ?_⟩
     simpa using ho
 exact go _ 0 (aeE _) rfl [] (fun x => ⟨fun j hj => absurd hj (aeB _), fun _ => rfl⟩)
def Iy (v : af) : Bool := (decide (v.kw ≤ 200) && v.xq) && decide (v.aJ ≤ 3)
theorem TW {v : af} (hv : v.wt ≤ 2000000) : iP v = some (decide (v.kw ≤ 200) && v.xq) := by
 unfold iP
 rw [xO _ (aeb _) v hv, sb, qJ _ (aeb _) v hv]
 by_cases h : v.kw ≤ 200
 ·rw [if_pos agi, sb, decide_eq_true h]; rfl
 ·rw [if_neg agi, decide_eq_false h]; rfl
theorem Gl {v : af} (h : v.xq = true) : 0 ≤ v.aJ := by
 cases v with
 | mk k n s x l =>
  rw [tr] at h
  simp only [af.mw]
  refine Classical.byContradiction fun hk => ?_
  rw [if_neg agi, if_neg agi, if_neg agi, if_neg agi, if_neg agi, if_neg agi] at h
  simp at h
def wu (c : aw) (k : Nat) : Bool := Gk (fun j => decide ((gD c j).ao = (gD c k).ao)) k
def tt (c : aw) (k : Nat) : Bool := (!wu c k && pX (gD c k).ao) && Iy (gD c k).aH
theorem Qq {c : aw} (h : CB c) : cD c 0 = some (if ie (tt c) 0 c.aA.length = true then .inl () else .inr (.inr (.inr false))) := by
 have yB := h.fs
 refine lB (L := cD c) _ _ _ _ (fun k hk => ?_) (by rw [cD, if_neg agi])
 have hw : (gD c k).aH.wt ≤ 2000000 := h.iw _ (yz hk)
 have inner : ∀ (v : Bool) (x y : aB), bT v c x y (k : Int) 0 = some (if wu c k = true then .inr (.inr (.inr (.inr false))) else .inl (x.aH.aJ, (decide (x.aH.aJ > 3)), y.ao, v, (!v))) := fun v x y => by
  have e := lB (L := fun q => bT v c x y (k : Int) q) (fun j => !decide ((gD c j).ao = (gD c k).ao)) k (.inl (x.aH.aJ, (decide (x.aH.aJ > 3)), y.ao, v, (!v))) (.inr (.inr (.inr (.inr false)))) (fun j hj => by
   show (_ → bT v c x y (k : Int) (j : Int) = _) ∧ (_ → bT v c x y (k : Int) (j : Int) = _)
   have e1 : bT v c x y (k : Int) (j : Int) = if (gD c j).ao = (gD c k).ao then some (.inr (.inr (.inr (.inr false)))) else bT v c x y (k : Int) ((j + 1 : Nat) : Int) := by
    rw [bT, if_pos agi, Qo (show j < c.aA.length by omega), sb, Qo hk, sb, aS agi]
   rw [e1]
   exact ⟨fun hq => if_neg (by simpa using hq), fun hq => if_pos (by simpa using hq)⟩) (by
   show bT v c x y (k : Int) (k : Int) = _
   rw [bT, if_neg agi])
  refine e.trans ?_
  have hb : ie (fun j => !decide ((gD c j).ao = (gD c k).ao)) 0 k = !wu c k := by
   rw [aeF, nI, aeD, Bool.eq_false_iff, Ne, wu, mW]
   constructor
   ·rintro hq ⟨j, h1, h2⟩
    have := hq j (aeE _) h1
    rw [h2] at this; cases this
   ·intro hq j _ hj
    cases hd : decide ((gD c j).ao = (gD c k).ao) with
    | false => rfl
    | true => exact absurd ⟨j, hj, hd⟩ hq
  rw [hb]
  cases wu c k <;> rfl
 have this : cD c (k : Int) = if tt c k = true then cD c ((k + 1 : Nat) : Int) else some (.inr (.inr (.inr false))) := by
  rw [cD, if_pos agi, Qo hk, sb]
  show ((m22 (gD c k).aH >>= _) >>= _) = _
  rw [TX hw, sb, aS agi]
  unfold tt Iy
  cases hv : (decide ((gD c k).aH.kw ≤ 200) && (gD c k).aH.xq) with
  | false => rw [if_neg agj, sb]; simp
  | true =>
   rw [if_pos rfl, sb]
   show ((if (gD c k).aH.aJ > 3 then _ else _) >>= _) = _
   by_cases h3 : (gD c k).aH.aJ > 3
   ·rw [if_pos h3, sb, decide_eq_false (by omega : ¬ (gD c k).aH.aJ ≤ 3)]; simp
   ·rw [if_neg h3, decide_eq_true (by omega : (gD c k).aH.aJ ≤ 3), sb]
    show ((gq (gD c k).ao >>= _) >>= _) = _
    rw [R8, sb]
    cases hg : pX (gD c k).ao with
    | false => rw [if_neg agj, sb]; simp
    | true =>
     rw [if_pos rfl, inner, sb]
     cases Qp : wu c k with
     | true => simp
     | false => simp
 rw [this]
 exact agc
theorem Qr {c : aw} (h : CB c) : cf c [] 0 = some (if ie (tt c) 0 c.aA.length = true then .inl () else .inr (.inr (.inr false))) := by
 have yB := h.fs
 refine uh (L := fun l y => cf c l y) (tt c) c.aA.length _ _ (fun l k => ∀ x, rF l x false = true ↔ ∃ j, j < k ∧ (gD c j).ao = x) (fun l k hk hi => ?_) (fun l hi => ?_) c.aA.length 0 [] agi (aeE _) (fun x => ⟨fun h => by simp [rF, hJ] at h, fun ⟨j, h, _⟩ => absurd h (aeB _)⟩)
 ·have hw : (gD c k).aH.wt ≤ 2000000 := h.iw _ (yz hk)
  have e : rF l (gD c k).ao false = wu c k := by
   rw [aeF, hi, wu, mW]
   exact ⟨fun ⟨j, h1, h2⟩ => ⟨j, h1, by simpa using h2⟩, fun ⟨j, h1, h2⟩ => ⟨j, h1, by simpa using h2⟩⟩
  have this : cf c l (k : Int) = if tt c k = true then cf c (fp l (gD c k).ao true) ((k + 1 : Nat) : Int) else some (.inr (.inr (.inr false))) := by
   rw [cf, if_pos agi, Qo hk, sb]
   show (if rF l (gD c k).ao false = true then _ else (ef (gD c k).ao >>= _)) = _
   rw [e, R7, sb]
   unfold tt Iy
   cases Qp : wu c k with
   | true => rw [if_pos rfl]; simp
   | false =>
    rw [if_neg agj]
    cases hg : pX (gD c k).ao with
    | false => rw [if_neg agj]; simp
    | true =>
     rw [if_pos rfl]
     show (iP (gD c k).aH >>= _) = _
     rw [TW hw, sb]
     cases hv : (decide ((gD c k).aH.kw ≤ 200) && (gD c k).aH.xq) with
     | false => rw [if_neg agj]; simp
     | true =>
      have hk0 := Gl (show (gD c k).aH.xq = true by simp only [an] at hv; exact hv.2)
      rw [if_pos rfl]
      show (yx (gD c k).aH.aJ 0 3 >>= _) = _
      rw [mv, sb, aS agi]
      by_cases h3 : (gD c k).aH.aJ ≤ 3
      ·rw [if_pos (by simp [hk0, h3]), if_pos (by simp [h3])]
      ·rw [if_neg (by simp [h3]), if_neg (by simp [h3])]
  simp only [this]
  refine ⟨fun hc => ⟨fp l (gD c k).ao true, fun x => ?_, by rw [if_pos hc]⟩, fun hc => if_neg (by rw [hc]; decide)⟩
  rw [wk]
  by_cases hx : x = (gD c k).ao
  ·rw [if_pos hx]; exact ⟨fun _ => ⟨k, by omega, hx.symm⟩, fun _ => rfl⟩
  ·rw [if_neg hx, hi]
   constructor
   ·rintro ⟨j, q1, q2⟩; exact ⟨j, by omega, q2⟩
   ·rintro ⟨j, q1, q2⟩
    rcases Nat.lt_succ_iff_lt_or_eq.1 q1 with q | rfl
    ·exact ⟨j, q, q2⟩
    ·exact absurd q2.symm hx
 ·show cf c l _ = _
  rw [cf, if_neg agi]
def Cu (f : aC) : Bool := (jx f).getD false
theorem Kd (f : aC) : jx f = some (Cu f) ∧ ko f = some (Cu f) := by
 obtain ⟨b, e1, e2⟩ := MY f
 unfold Cu
 rw [e1, e2]
 exact ⟨rfl, rfl⟩
def Sa (p : aD) (s : ba) : Int := (e7 p s).getD (-1)
def K6 (c : aw) (k : Nat) : ba := ((gM c k).fh ++ [58, 58]) ++ (gM c k).ao
def pn (p : aD) (c : aw) (k : Nat) : Bool := decide (0 ≤ Sa p (K6 c k)) && (!Cu (gF p (Sa p (K6 c k)).toNat) && decide ((gF p (Sa p (K6 c k)).toNat).aE.length = 0))
theorem M0 {p : aD} (hl : p.aG.length ≤ 2000000) (s : ba) : e7 p s = some (Sa p s) ∧ ((Sa p s = -1 ∧ ∀ j, j < p.aG.length → (gF p j).ao ≠ s) ∨ ∃ j : Nat, j < p.aG.length ∧ Sa p s = (j : Int) ∧ (gF p j).ao = s ∧ ∀ i, i < j → (gF p i).ao ≠ s) := by
 obtain ⟨r, e, h⟩ := findF p s hl
 have : Sa p s = r := by unfold Sa; rw [e]; rfl
 rw [this]
 exact ⟨e, h⟩
theorem M1 {p : aD} {c : aw} (hp : PB p) (h : CB c) : cE p c 0 = some (if ie (pn p c) 0 c.av.length = true then .inl () else .inr (.inr false)) := by
 have yB := h.ms
 refine lB (L := cE p c) _ _ _ _ (fun k hk => ?_) (by rw [cE, if_neg agi])
 obtain ⟨m1, m2⟩ : (gM c k).fh.length ≤ 2000000 ∧ (gM c k).ao.length ≤ 2000000 := h.mn _ (yz hk)
 obtain ⟨e, hr⟩ := M0 hp.fl (K6 c k)
 have this : cE p c (k : Int) = if pn p c k = true then cE p c ((k + 1 : Nat) : Int) else some (.inr (.inr false)) := by
  rw [cE, if_pos agi, XW hk, sb, dS agp, sb, sb, dS agm, sb]
  show (e7 p (K6 c k) >>= _) = _
  rw [e, sb, aS agi]
  rcases hr with ⟨hn, _⟩ | ⟨j, h1, hj, _⟩
  ·rw [show pn p c k = false by unfold pn; rw [hn]; rfl, hn, if_pos agj, if_neg agj]
  ·rw [show pn p c k = (!Cu (gF p j) && decide ((gF p j).aE.length = 0)) by unfold pn; rw [hj, aep]; simp, hj, if_neg agi, K5 h1, sb, sb]
   show (ko (gF p j) >>= _) = _
   rw [(Kd _).2, sb]
   by_cases ht : Cu (gF p j) = true
   ·rw [if_pos ht, ht]; simp
   ·have XU : Cu (gF p j) = false := by simpa using ht
    rw [if_neg ht, XU]
    show (if ((gF p j).aE.length : Int) > 0 then _ else _) = _
    by_cases hu : (gF p j).aE.length = 0
    ·rw [if_neg agi, if_pos (by simp [hu])]
    ·rw [if_pos agi, if_neg (by simp [hu])]
 rw [this]
 exact agc
theorem M3 {p : aD} {c : aw} (hp : PB p) (h : CB c) {l : List (ba × Int)} (hl : MF p l p.aG.length) (sA : List (ba × Bool)) : cF p l sA c 0 = some (if ie (pn p c) 0 c.av.length = true then .inl (fp sA c.ao true) else .inr (.inr false)) := by
 have yB := h.ms
 refine lB (L := cF p l sA c) _ _ _ _ (fun k hk => ?_) (by rw [cF, if_neg agi])
 obtain ⟨m1, m2⟩ : (gM c k).fh.length ≤ 2000000 ∧ (gM c k).ao.length ≤ 2000000 := h.mn _ (yz hk)
 obtain ⟨e, hr⟩ := M0 hp.fl (K6 c k)
 obtain ⟨a1, a2⟩ := hl (K6 c k)
 have this : cF p l sA c (k : Int) = if pn p c k = true then cF p l sA c ((k + 1 : Nat) : Int) else some (.inr (.inr false)) := by
  rw [cF, if_pos agi, XW hk, sb, dS agp, sb, dS agm, sb]
  show (if sM l (K6 c k) = true then (idx p.aG (rF l (K6 c k) 0) >>= _) else _) = _
  rw [aS agi]
  rcases hr with ⟨hn, wq⟩ | ⟨j, h1, hj, h2, _⟩
  ·have hm : sM l (K6 c k) = false := by unfold sM; rw [a2 wq]; rfl
   rw [show pn p c k = false by unfold pn; rw [hn]; rfl, hm, if_neg agj, if_neg agj]
  ·have hm : sM l (K6 c k) = true := by unfold sM; rw [a1 j h1 h2]; rfl
   have hg : rF l (K6 c k) 0 = (j : Int) := by unfold rF; rw [a1 j h1 h2]; rfl
   rw [show pn p c k = (!Cu (gF p j) && decide ((gF p j).aE.length = 0)) by unfold pn; rw [hj, aep]; simp, hm, if_pos rfl, hg, K5 h1, sb]
   show (jx (gF p j) >>= _) = _
   rw [(Kd _).1, sb]
   by_cases ht : Cu (gF p j) = true
   ·rw [if_pos ht, ht]; simp
   ·have XU : Cu (gF p j) = false := by simpa using ht
    rw [if_neg ht, XU]
    show ((idx p.aG (rF l (K6 c k) 0) >>= fun Qs => if (Qs.aE.length : Int) > 0 then _ else _) : Option _) = _
    rw [hg, K5 h1, sb]
    by_cases hu : (gF p j).aE.length = 0
    ·rw [if_neg agi, if_pos (by simp [hu])]
    ·rw [if_pos agi, if_neg (by simp [hu])]
 rw [this]
 exact agc
def yC (p : aD) (k : Nat) : Bool := Gk (fun j => decide ((gK p j).ao = (gK p k).ao)) k
def tu (p : aD) (k : Nat) : Bool := !yC p k && (ie (tt (gK p k)) 0 (gK p k).aA.length && ie (pn p (gK p k)) 0 (gK p k).av.length)
theorem M4 {p : aD} (h : PB p) : cZ p 0 = some (if ie (tu p) 0 p.ay.length = true then .inl () else .inr false) := by
 have yB := h.cl
 refine lB (L := cZ p) _ _ _ _ (fun k hk => ?_) (by rw [cZ, if_neg agi])
 have XZ : CB (gK p k) := h.cb _ (yz hk)
 obtain ⟨r, e, hr⟩ := XX p (gK p k).ao h.cl
 have XY : r = (k : Int) ↔ yC p k = false := by
  rw [Bool.eq_false_iff, Ne, yC, mW]
  rcases hr with ⟨rfl, hn⟩ | ⟨j, h1, rfl, h2, h3⟩
  ·exact absurd rfl (hn k hk)
  ·constructor
   ·intro MW
    rintro ⟨i, q1, q2⟩
    exact h3 i agi (by simpa using q2)
   ·intro hn
    by_cases MW : j = k
    ·rw [MW]
    ·exfalso
     by_cases bP : j < k
     ·exact hn ⟨j, bP, by simpa using h2⟩
     ·exact h3 k agi rfl
 have this : cZ p (k : Int) = if tu p k = true then cZ p ((k + 1 : Nat) : Int) else some (.inr false) := by
  rw [cZ, if_pos agi, TT hk, sb]
  show ((jM p.ay (gK p k).ao >>= _) >>= _) = _
  rw [e, sb, aS agi]
  unfold tu
  by_cases h1 : r = (k : Int)
  ·rw [if_pos h1, XY.1 h1]
   show (((cD (gK p k) 0) >>= _) >>= _) = _
   rw [Qq XZ, sb]
   cases hD : ie (tt (gK p k)) 0 (gK p k).aA.length with
   | false => simp [sb]
   | true =>
    simp only [if_true]
    show ((cE p (gK p k) 0) >>= _) = _
    rw [M1 h XZ, sb]
    cases hM : ie (pn p (gK p k)) 0 (gK p k).av.length <;> simp
  ·rw [if_neg h1, sb]
   have : yC p k = true := by
    cases hq : yC p k with
    | true => rfl
    | false => exact absurd (XY.2 hq) h1
   rw [this]; simp
 rw [this]
 exact agc
theorem M5 {p : aD} (h : PB p) {l3 : List (ba × Int)} (hl : MF p l3 p.aG.length) : cG p l3 [] 0 = some (if ie (tu p) 0 p.ay.length = true then .inl () else .inr false) := by
 have yB := h.cl
 refine uh (L := fun l y => cG p l3 l y) (tu p) p.ay.length _ _ (fun l k => ∀ x, rF l x false = true ↔ ∃ j, j < k ∧ (gK p j).ao = x) (fun l k hk hi => ?_) (fun l hi => ?_) p.ay.length 0 [] agi (aeE _) (fun x => ⟨fun h => by simp [rF, hJ] at h, fun ⟨j, h, _⟩ => absurd h (aeB _)⟩)
 ·have XZ : CB (gK p k) := h.cb _ (yz hk)
  have e : rF l (gK p k).ao false = yC p k := by
   rw [aeF, hi, yC, mW]
   exact ⟨fun ⟨j, h1, h2⟩ => ⟨j, h1, by simpa using h2⟩, fun ⟨j, h1, h2⟩ => ⟨j, h1, by simpa using h2⟩⟩
  have this : cG p l3 l (k : Int) = if tu p k = true then cG p l3 (fp l (gK p k).ao true) ((k + 1 : Nat) : Int) else some (.inr false) := by
   rw [cG, if_pos agi, TT hk, sb]
   show ((if rF l (gK p k).ao false = true then _ else ((cf (gK p k) [] 0) >>= _)) >>= _) = _
   rw [e, Qr XZ, sb, aS agi]
   unfold tu
   cases Qp : yC p k with
   | true => rw [if_pos rfl, sb]; simp
   | false =>
    rw [if_neg agj]
    cases hD : ie (tt (gK p k)) 0 (gK p k).aA.length with
    | false => simp [sb]
    | true =>
     simp only [if_true]
     show ((cF p l3 l (gK p k) 0) >>= _) = _
     rw [M3 h XZ hl, sb]
     cases hM : ie (pn p (gK p k)) 0 (gK p k).av.length <;> simp
  simp only [this]
  refine ⟨fun hc => ⟨fp l (gK p k).ao true, fun x => ?_, by rw [if_pos hc]⟩, fun hc => if_neg (by rw [hc]; decide)⟩
  rw [wk]
  by_cases hx : x = (gK p k).ao
  ·rw [if_pos hx]; exact ⟨fun _ => ⟨k, by omega, hx.symm⟩, fun _ => rfl⟩
  ·rw [if_neg hx, hi]
   constructor
   ·rintro ⟨j, q1, q2⟩; exact ⟨j, by omega, q2⟩
   ·rintro ⟨j, q1, q2⟩
    rcases Nat.lt_succ_iff_lt_or_eq.1 q1 with q | rfl
    ·exact ⟨j, q, q2⟩
    ·exact absurd q2.symm hx
 ·show cG p l3 l _ = _
  rw [cG, if_neg agi]
def TY (p : aD) : Bool := (decide (p.aG.length ≤ 5000) && decide (p.ay.length ≠ 0)) && ((decide ((gK p 0).ao = ([69, 114, 114, 111, 114] : ba)) && (decide ((gK p 0).aA.length ≠ 0) && decide ((gD (gK p 0) 0).ao = ([109, 101, 115, 115, 97, 103, 101] : ba)))) && (ie (uW p) 0 p.aG.length && ie (tu p) 0 p.ay.length))
theorem TZ {p : aD} (h : PB p) : jN p = some (TY p) ∧ ll p = some (TY p) := by
 have yB := h.fl
 unfold jN ll TY
 by_cases h1 : (p.aG.length : Int) > 5000
 ·rw [if_pos h1, if_pos h1, decide_eq_false (by omega : ¬ p.aG.length ≤ 5000)]; simp
 rw [if_neg h1, if_neg h1, decide_eq_true (by omega : p.aG.length ≤ 5000)]
 by_cases h2 : (p.ay.length : Int) = 0
 ·rw [if_pos h2, if_pos h2, decide_eq_false (by omega : ¬ p.ay.length ≠ 0)]; simp
 rw [if_neg h2, if_neg h2, decide_eq_true (by omega : p.ay.length ≠ 0)]
 have hx : idx p.ay 0 = some (gK p 0) := C0 (i := 0) agi
 obtain ⟨o, e1, ho⟩ := TV h
 rw [e1, sb, hx, TU h, M4 h]
 simp only [sb, Bool.and_self, aeW]
 have hf : ∀ q : (gK p 0).aA.length ≠ 0, idx (gK p 0).aA 0 = some (gD (gK p 0) 0) := fun q => C0 (i := 0) agi
 constructor
 ·rcases ho with ⟨hA, l, rfl, hl⟩ | ⟨hA, rfl⟩
  ·simp only [M5 h hl, sb, hA]
   by_cases h3 : (gK p 0).ao = ([69, 114, 114, 111, 114] : ba)
   ·rw [if_pos h3, decide_eq_true h3]
    by_cases h4 : (gK p 0).aA.length = 0
    ·rw [if_pos agi]; simp [h4]
    ·rw [if_neg agi, hf h4, sb]
     by_cases h5 : (gD (gK p 0) 0).ao = ([109, 101, 115, 115, 97, 103, 101] : ba)
     ·rw [if_pos h5, decide_eq_true h5]
      cases ie (tu p) 0 p.ay.length <;> simp [h4]
     ·rw [if_neg h5, decide_eq_false h5]; simp
   ·rw [if_neg h3, decide_eq_false h3]; simp
  ·simp only [hA]; simp
 ·by_cases h3 : (gK p 0).ao = ([69, 114, 114, 111, 114] : ba)
  ·rw [if_pos h3, decide_eq_true h3]
   by_cases h4 : (gK p 0).aA.length = 0
   ·rw [if_pos agi]; simp [h4]
   ·rw [if_neg agi, hf h4, sb]
    by_cases h5 : (gD (gK p 0) 0).ao = ([109, 101, 115, 115, 97, 103, 101] : ba)
    ·rw [if_pos h5, decide_eq_true h5]
     cases ie (uW p) 0 p.aG.length <;> cases ie (tu p) 0 p.ay.length <;> simp [h4]
    ·rw [if_neg h5, decide_eq_false h5]; simp
  ·rw [if_neg h3, decide_eq_false h3]; simp
theorem K7 {p : aD} (h : PB p) (hp : TY p = true) : (∀ f ∈ p.aG, hU f = some true) ∧ ∀ c ∈ p.ay, ∀ x ∈ c.aA, Iy x.aH = true := by
 unfold TY at hp
 simp only [an] at hp
 obtain ⟨_, _, hF, hK⟩ := hp
 refine ⟨fun f hf => ?_, fun c hc x hx => ?_⟩
 ·obtain ⟨i, hi, rfl⟩ := afi hf
  have := nI.1 hF i (aeE _) hi
  unfold uW at this
  rw [an] at this
  have h2 := this.2
  rw [gF, wo hi] at h2
  rw [(Ix (h.fb _ hf)).1, h2]
 ·obtain ⟨i, hi, rfl⟩ := afi hc
  have := nI.1 hK i (aeE _) hi
  unfold tu at this
  rw [an, an] at this
  have h2 := this.2.1
  rw [gK, wo hi] at h2
  obtain ⟨j, hj, rfl⟩ := afi hx
  have := nI.1 h2 j (aeE _) hj
  unfold tt at this
  rw [an] at this
  have h3 := this.2
  rw [gD, wo hj] at h3
  exact h3
def zS {α : Type} (z : α → Nat) (l : List α) : Nat := l.length + (l.map z).sum
theorem nq {α : Type} {z : α → Nat} {x : α} {l : List α} : zS z (x :: l) = (1 + z x) + zS z l := by unfold zS; simp; omega
theorem lC {α : Type} {z : α → Nat} (l : List α) : l.length ≤ zS z l := by unfold zS; omega
theorem pq {α : Type} {z : α → Nat} : ∀ {l : List α} {x : α}, x ∈ l → 1 + z x ≤ zS z l
 | y :: l, x, h => by
  rw [nq]
  rcases aej.1 h with rfl | h
  ·omega
  ·have := pq (z := z) h; omega
theorem wv {α : Type} (l : List α) : zS (fun _ => 0) l = l.length := by
 induction l with
 | nil => rfl
 | cons x l ih => rw [nq, ih]; simp; omega
theorem qm {α : Type} [Inhabited α] (B : Nat) {L : List α → List α → Int → Int → Option (Int × List α)} {H : List α → Int → Int → Option (Int ⊕ Int)} (l : List α) (z : α → Nat)
  (step : ∀ x ∈ l, ∀ k : Nat, k + 7 * (1 + z x) ≤ B → ∃ (k' : Nat) (y : α), k ≤ k' ∧ k' ≤ k + 7 * (1 + z x) ∧
   (∀ (m : List α) (i : Nat), i < l.length → idx m (i : Int) = some x → L l m (k : Int) (i : Int) = L l (m.set i y) (k' : Int) ((i + 1 : Nat) : Int)) ∧
   ∀ (m : List α) (i : Nat), i < m.length → m.length ≤ B → idx m (i : Int) = some y → H m (k : Int) (i : Int) = H m (k' : Int) ((i + 1 : Nat) : Int))
  (he : ∀ m k, L l m k (l.length : Int) = some (k, m)) (hh : ∀ m k, H m k (m.length : Int) = some (.inl k)) :
  ∀ k : Nat, k + 7 * zS z l ≤ B → ∃ (k' : Nat) (l' : List α), L l l (k : Int) 0 = some ((k' : Int), l') ∧ k ≤ k' ∧ k' ≤ k + 7 * zS z l ∧ l'.length = l.length ∧ H l' (k : Int) 0 = some (.inl (k' : Int)) := by
 have go : ∀ (R P : List α) (k : Nat), (∀ x ∈ R, x ∈ l) → P.length + R.length = l.length → l.length ≤ B → k + 7 * zS z R ≤ B →
   ∃ (k' : Nat) (R' : List α), L l (P ++ R) (k : Int) (P.length : Int) = some ((k' : Int), P ++ R') ∧ k ≤ k' ∧ k' ≤ k + 7 * zS z R ∧ R'.length = R.length ∧ ∀ Q : List α, Q.length = P.length → H (Q ++ R') (k : Int) (Q.length : Int) = some (.inl (k' : Int)) := by
  intro R
  induction R with
  | nil =>
   intro P k h1 h2 h3 h4
   simp only [aec, aeT] at h2
   refine ⟨k, [], ?_, aeb _, by omega, rfl, fun Q hQ => ?_⟩
   ·rw [aeR, h2]; exact he P k
   ·rw [aeR]; exact hh Q k
  | cons x R ih =>
   intro P k h1 h2 h3 h4
   rw [nq] at h4
   simp only [aea] at h2
   obtain ⟨k1, y, g1, g2, g3, g4⟩ := step x (h1 x agk) k agi
   have hx : ∀ (S : List α) (w : α) (T : List α), idx (S ++ w :: T) (S.length : Int) = some w := fun S w T => by
    rw [a8 agk]; simp
   have T0 : (P ++ x :: R).set P.length y = (P ++ [y]) ++ R := by simp
   obtain ⟨k', R', f1, f2, f3, f4, f5⟩ := ih (P ++ [y]) k1 (fun w hw => h1 w (by simp [hw])) ago h3 agi
   refine ⟨k', y :: R', ?_, by omega, by rw [nq]; omega, by simp [f4], fun Q hQ => ?_⟩
   ·rw [g3 _ _ agi (hx P x R), T0]
    have e : ((P ++ [y]).length : Int) = ((P.length + 1 : Nat) : Int) := by simp
    rw [← e, f1]; simp
   ·rw [g4 _ _ agk (by simp [f4]; omega) (hx Q y R')]
    have f6 := f5 (Q ++ [y]) (by simp [hQ])
    have e : ((Q ++ [y]).length : Int) = ((Q.length + 1 : Nat) : Int) := by simp
    rw [e] at f6
    simpa using f6
 intro k hk
 have hl := lC (z := z) l
 obtain ⟨k', l', e1, e2, e3, e4, e5⟩ := go l [] k (fun x hx => hx) agk agi hk
 exact ⟨k', l', by simpa using e1, e2, e3, e4, by simpa using e5 [] rfl⟩
theorem Gm (l : List TParam) (k : Nat) (h : k + 7 * l.length ≤ 1000000000) : ∃ (k' : Nat) (l' : List TParam), ji l (k : Int) = some ((k' : Int), l') ∧ k ≤ k' ∧ k' ≤ k + 7 * l.length ∧ l'.length = l.length ∧ ml l' (k : Int) = some (k' : Int) := by
 obtain ⟨k', l', e1, e2, e3, e4, e5⟩ := qm 1000000000 (L := fG) (H := iI) l (fun _ => 0) (fun x hx k hk => by
  have Sb := lC (z := (fun _ => 0)) l
  have PK := pq (z := (fun _ => 0)) hx
  refine ⟨k + 1 + 1, TParam.mk (Gn (k : Int)) ((((k + 1 : Nat) : Int).tmod 3) == 0), by omega, by omega, fun m i hi hm => ?_, fun m i hi hl hm => ?_⟩
  ·rw [fG, if_pos agi]
   simp (disch := omega) only [hm, jV, aS, sb, aep]
  ·rw [iI, if_pos agi]
   simp (disch := omega) only [hm, if_true, jV, aS, sb, aep, if_neg, aB.mk.injEq]) (fun m k => by rw [fG, if_neg agi]) (fun m k => by rw [iI, if_neg agi]) k (by rw [wv]; omega)
 refine ⟨k', l', ?_, e2, by rw [wv] at e3; omega, e4, ?_⟩
 ·unfold ji; rw [e1, sb]
 ·unfold ml; rw [e5, sb]
theorem K8 (l : List ba) (k : Nat) (h : k + 7 * l.length ≤ 1000000000) : ∃ (k' : Nat) (l' : List ba), jB l (k : Int) = some ((k' : Int), l') ∧ k ≤ k' ∧ k' ≤ k + 7 * l.length ∧ l'.length = l.length ∧ n7 l' (k : Int) = some (k' : Int) := by
 obtain ⟨k', l', e1, e2, e3, e4, e5⟩ := qm 1000000000 (L := eL) (H := hC) l (fun _ => 0) (fun x hx k hk => by
  have Sb := lC (z := (fun _ => 0)) l
  have PK := pq (z := (fun _ => 0)) hx
  refine ⟨k + 1, (Gn (k : Int)), by omega, by omega, fun m i hi hm => ?_, fun m i hi hl hm => ?_⟩
  ·rw [eL, if_pos agi]
   simp (disch := omega) only [hm, jV, aS, sb, aep]
  ·rw [hC, if_pos agi]
   simp (disch := omega) only [hm, if_true, jV, aS, sb, aep, if_neg, aB.mk.injEq]) (fun m k => by rw [eL, if_neg agi]) (fun m k => by rw [hC, if_neg agi]) k (by rw [wv]; omega)
 refine ⟨k', l', ?_, e2, by rw [wv] at e3; omega, e4, ?_⟩
 ·unfold jB; rw [e1, sb]
 ·unfold n7; rw [e5, sb]
theorem T1 (l : List aR) (k : Nat) (h : k + 7 * l.length ≤ 1000000000) : ∃ (k' : Nat) (l' : List aR), mj l (k : Int) = some ((k' : Int), l') ∧ k ≤ k' ∧ k' ≤ k + 7 * l.length ∧ l'.length = l.length ∧ rN l' (k : Int) = some (k' : Int) := by
 obtain ⟨k', l', e1, e2, e3, e4, e5⟩ := qm 1000000000 (L := iE) (H := jD) l (fun _ => 0) (fun x hx k hk => by
  have Sb := lC (z := (fun _ => 0)) l
  have PK := pq (z := (fun _ => 0)) hx
  refine ⟨k + 1 + 1 + 1 + 1 + 1, aR.mk (k : Int) ((k + 1 : Nat) : Int) ((k + 1 + 1 : Nat) : Int) (Gn ((k + 1 + 1 + 1 : Nat) : Int)) (Gn ((k + 1 + 1 + 1 + 1 : Nat) : Int)), by omega, by omega, fun m i hi hm => ?_, fun m i hi hl hm => ?_⟩
  ·rw [iE, if_pos agi]
   simp (disch := omega) only [hm, jV, aS, sb, aep]
  ·rw [jD, if_pos agi]
   simp (disch := omega) only [hm, if_true, jV, aS, sb, aep, if_neg, aB.mk.injEq]) (fun m k => by rw [iE, if_neg agi]) (fun m k => by rw [jD, if_neg agi]) k (by rw [wv]; omega)
 refine ⟨k', l', ?_, e2, by rw [wv] at e3; omega, e4, ?_⟩
 ·unfold mj; rw [e1, sb]
 ·unfold rN; rw [e5, sb]
theorem K9 (l : List ax) (k : Nat) (h : k + 7 * l.length ≤ 1000000000) : ∃ (k' : Nat) (l' : List ax), jC l (k : Int) = some ((k' : Int), l') ∧ k ≤ k' ∧ k' ≤ k + 7 * l.length ∧ l'.length = l.length ∧ n8 l' (k : Int) = some (k' : Int) := by
 obtain ⟨k', l', e1, e2, e3, e4, e5⟩ := qm 1000000000 (L := eN) (H := hI) l (fun _ => 0) (fun x hx k hk => by
  have Sb := lC (z := (fun _ => 0)) l
  have PK := pq (z := (fun _ => 0)) hx
  refine ⟨k + 1 + 1 + 1 + 1 + 1, ax.mk (Gn (k : Int)) (Gn ((k + 1 : Nat) : Int)) (Gn ((k + 1 + 1 : Nat) : Int)) ((((k + 1 + 1 + 1 : Nat) : Int).tmod 3) == 0) ((((k + 1 + 1 + 1 + 1 : Nat) : Int).tmod 3) == 0), by omega, by omega, fun m i hi hm => ?_, fun m i hi hl hm => ?_⟩
  ·rw [eN, if_pos agi]
   simp (disch := omega) only [hm, jV, aS, sb, aep]
  ·rw [hI, if_pos agi]
   simp (disch := omega) only [hm, if_true, jV, aS, sb, aep, if_neg, aB.mk.injEq]) (fun m k => by rw [eN, if_neg agi]) (fun m k => by rw [hI, if_neg agi]) k (by rw [wv]; omega)
 refine ⟨k', l', ?_, e2, by rw [wv] at e3; omega, e4, ?_⟩
 ·unfold jC; rw [e1, sb]
 ·unfold n8; rw [e5, sb]
def zD (x : aB) : Nat := x.aH.wt
def zK (x : aw) : Nat := zS zD x.aA + x.av.length
def zF (x : aC) : Nat := x.ak.length + x.aE.length + x.ar.length + x.aq.length
def zP (x : aD) : Nat := zS zF x.aG + zS zK x.ay
theorem M6 (l : List aB) (k : Nat) (h : k + 7 * zS zD l ≤ 1000000000) : ∃ (k' : Nat) (l' : List aB), ki l (k : Int) = some ((k' : Int), l') ∧ k ≤ k' ∧ k' ≤ k + 7 * zS zD l ∧ l'.length = l.length ∧ oZ l' (k : Int) = some (k' : Int) := by
 obtain ⟨k', l', e1, e2, e3, e4, e5⟩ := qm 1000000000 (L := fH) (H := iJ) l zD (fun x hx k hk => by
  have Sb := lC (z := zD) l
  have PK := pq (z := zD) hx
  have X0 := x.aH.pr
  simp only [zD] at hk ⊢
  obtain ⟨k1, l1, e1, g0, g1, g2, g3⟩ := C1 _ x.aH.ai (aeb _) (k + 1 + 1 + 1 + 1 + 1 + 1 + 1) agi
  have gn : ¬ (k1 : Int) < 0 := by omega
  refine ⟨k1, aB.mk (Gn (k : Int)) (Gn ((k + 1 : Nat) : Int)) ((((k + 1 + 1 : Nat) : Int).tmod 3) == 0) (af.mk ((k + 1 + 1 + 1 : Nat) : Int) ((k + 1 + 1 + 1 + 1 : Nat) : Int) (Gn ((k + 1 + 1 + 1 + 1 + 1 : Nat) : Int)) ((k + 1 + 1 + 1 + 1 + 1 + 1 : Nat) : Int) l1), by omega, by omega, fun m i hi hm => ?_, fun m i hi hl hm => ?_⟩
  ·rw [fH, if_pos agi]
   simp (disch := omega) only [hm, jV, aS, sb, aep, e1, g3, gn, if_false, af.mw, af.uj, af.uk, af.nJ, af.gO]
  ·rw [iJ, if_pos agi]
   simp (disch := omega) only [hm, if_true, jV, aS, sb, aep, e1, g3, gn, if_false, af.mw, af.uj, af.uk, af.nJ, af.gO, if_neg, aB.mk.injEq]) (fun m k => by rw [fH, if_neg agi]) (fun m k => by rw [iJ, if_neg agi]) k agi
 refine ⟨k', l', ?_, e2, by omega, e4, ?_⟩
 ·unfold ki; rw [e1, sb]
 ·unfold oZ; rw [e5, sb]
theorem M7 (l : List aw) (k : Nat) (h : k + 7 * zS zK l ≤ 1000000000) : ∃ (k' : Nat) (l' : List aw), kj l (k : Int) = some ((k' : Int), l') ∧ k ≤ k' ∧ k' ≤ k + 7 * zS zK l ∧ l'.length = l.length ∧ pc l' (k : Int) = some (k' : Int) := by
 obtain ⟨k', l', e1, e2, e3, e4, e5⟩ := qm 1000000000 (L := fI) (H := iK) l zK (fun x hx k hk => by
  have Sb := lC (z := zK) l
  have PK := pq (z := zK) hx
  simp only [zK] at hk ⊢
  obtain ⟨k1, l1, e1, g1, g2, g0, g3⟩ := M6 x.aA (k + 1 + 1) agi
  obtain ⟨k2, l2, e2, q1, q2, q0, q3⟩ := K9 x.av k1 agi
  have gn : ¬ (k1 : Int) < 0 := by omega
  have gm : ¬ (k2 : Int) < 0 := by omega
  refine ⟨k2, aw.mk (Gn (k : Int)) (Gn ((k + 1 : Nat) : Int)) l1 l2, by omega, by omega, fun m i hi hm => ?_, fun m i hi hl hm => ?_⟩
  ·rw [fI, if_pos agi]
   simp (disch := omega) only [hm, jV, aS, sb, aep, e1, g3, e2, q3, gn, gm, if_false]
  ·rw [iK, if_pos agi]
   simp (disch := omega) only [hm, if_true, jV, aS, sb, aep, e1, g3, e2, q3, gn, gm, if_false, if_neg, aB.mk.injEq]) (fun m k => by rw [fI, if_neg agi]) (fun m k => by rw [iK, if_neg agi]) k agi
 refine ⟨k', l', ?_, e2, by omega, e4, ?_⟩
 ·unfold kj; rw [e1, sb]
 ·unfold pc; rw [e5, sb]
theorem Qt (l : List aC) (k : Nat) (h : k + 7 * zS zF l ≤ 1000000000) : ∃ (k' : Nat) (l' : List aC), lh l (k : Int) = some ((k' : Int), l') ∧ k ≤ k' ∧ k' ≤ k + 7 * zS zF l ∧ l'.length = l.length ∧ qG l' (k : Int) = some (k' : Int) := by
 obtain ⟨k', l', e1, e2, e3, e4, e5⟩ := qm 1000000000 (L := gL) (H := jj) l zF (fun x hx k hk => by
  have Sb := lC (z := zF) l
  have PK := pq (z := zF) hx
  simp only [zF] at hk ⊢
  obtain ⟨k1, l1, e1, a1, a2, a0, a3⟩ := Gm x.ak (k + 1) agi
  obtain ⟨k2, l2, e2, b1, b2, b0, b3⟩ := Gm x.aE k1 agi
  obtain ⟨k3, l3, e3, c1, c2, c0, c3⟩ := K8 x.ar k2 agi
  obtain ⟨k4, l4, e4, d1, d2, d0, d3⟩ := T1 x.aq (k3 + 1) agi
  have g1 : ¬ (k1 : Int) < 0 := by omega
  have g2 : ¬ (k2 : Int) < 0 := by omega
  have g3 : ¬ (k3 : Int) < 0 := by omega
  have g4 : ¬ (k4 : Int) < 0 := by omega
  refine ⟨k4, aC.mk (Gn (k : Int)) l1 l2 l3 (((k3 : Int).tmod 3) == 0) l4, by omega, by omega, fun m i hi hm => ?_, fun m i hi hl hm => ?_⟩
  ·rw [gL, if_pos agi]
   simp (disch := omega) only [hm, jV, aS, sb, aep, e1, e2, e3, e4, a3, b3, c3, d3, g1, g2, g3, g4, if_false]
  ·rw [jj, if_pos agi]
   simp (disch := omega) only [hm, if_true, jV, aS, sb, aep, e1, e2, e3, e4, a3, b3, c3, d3, g1, g2, g3, g4, if_false, if_neg, aB.mk.injEq]) (fun m k => by rw [gL, if_neg agi]) (fun m k => by rw [jj, if_neg agi]) k agi
 refine ⟨k', l', ?_, e2, by omega, e4, ?_⟩
 ·unfold lh; rw [e1, sb]
 ·unfold qG; rw [e5, sb]
theorem La (p : aD) (k : Nat) (h : k + 7 * zP p ≤ 1000000000) : ∃ (k' : Nat) (p' : aD), iF p (k : Int) = some ((k' : Int), p') ∧ k ≤ k' ∧ k' ≤ k + 7 * zP p ∧ sy p' (k : Int) = some (k' : Int) := by
 unfold zP at h ⊢
 obtain ⟨k1, l1, e1, a1, a2, a0, a3⟩ := Qt p.aG k agi
 obtain ⟨k2, l2, e2, b1, b2, b0, b3⟩ := M7 p.ay k1 agi
 refine ⟨k2, ⟨l1, l2⟩, ?_, by omega, by omega, ?_⟩
 ·unfold iF; rw [e1, sb]; dsimp only; rw [e2, sb]
 ·unfold sy
  dsimp only
  rw [a3, sb, if_neg agi, b3, sb, if_neg agi]
theorem lM {L : Int → Option (Unit ⊕ Bool)} (n : Nat) (hs : ∀ k : Nat, k < n → L (k : Int) = L ((k + 1 : Nat) : Int)) (he : L (n : Int) = some (.inl ())) : L 0 = some (.inl ()) := by
 have := lB (L := L) (fun _ => true) n (.inl ()) (.inr true) (fun k hk => ⟨fun _ => hs k hk, fun h => by cases h⟩) he
 rw [this, if_pos (nI.2 (fun _ _ _ => rfl))]
theorem Iz (x : aR) : qV x x = some true := by unfold qV; simp
theorem Ef (x : TParam) : nA x x = some true := by unfold nA; simp
theorem Cv (x : ax) : mg x x = some true := by unfold mg; simp
theorem Eg (x : aB) (h : x.aH.wt ≤ 2000000) : nD x x = some true := by unfold nD; simp [Gp _ (aeb _) _ h, sb]
theorem uX (l : List TParam) (hn : l.length ≤ 2000000) : kL l l = some true := by
 have e : iA l l 0 = some (.inl ()) := lM l.length (fun k hk => by rw [iA, if_pos agi, a8 hk, sb, sb, Ef, sb, if_pos rfl, aS agi]) (by rw [iA, if_neg agi])
 unfold kL
 rw [if_pos rfl, e]; rfl
theorem Gq (l : List aR) (hn : l.length ≤ 2000000) : oV l l = some true := by
 have e : jJ l l 0 = some (.inl ()) := lM l.length (fun k hk => by rw [jJ, if_pos agi, a8 hk, sb, sb, Iz, sb, if_pos rfl, aS agi]) (by rw [jJ, if_neg agi])
 unfold oV
 rw [if_pos rfl, e]; rfl
theorem AB (l : List ax) (hn : l.length ≤ 2000000) : ld l l = some true := by
 have e : gH l l 0 = some (.inl ()) := lM l.length (fun k hk => by rw [gH, if_pos agi, a8 hk, sb, sb, Cv, sb, if_pos rfl, aS agi]) (by rw [gH, if_neg agi])
 unfold ld
 rw [if_pos rfl, e]; rfl
theorem AD (l : List ba) (hn : l.length ≤ 2000000) : lb l l = some true := by
 have e : gG l l 0 = some (.inl ()) := lM l.length (fun k hk => by rw [gG, if_pos agi, a8 hk, sb, sb, if_pos rfl, aS agi]) (by rw [gG, if_neg agi])
 unfold lb
 rw [if_pos rfl, e]; rfl
theorem Eh (l : List UInt8) (hn : l.length ≤ 9000000000000000000) : kh l l = some true := by
 have e : jh l l 0 = some (.inl ()) := lM l.length (fun k hk => by rw [jh, if_pos agi, a8 hk, sb, sb, if_pos rfl, aS agi]) (by rw [jh, if_neg agi])
 unfold kh
 rw [if_pos rfl, e]; rfl
theorem Cw (l : List aB) (hn : l.length ≤ 2000000) (h : ∀ x ∈ l, x.aH.wt ≤ 2000000) : mh l l = some true := by
 have e : iB l l 0 = some (.inl ()) := lM l.length (fun k hk => by rw [iB, if_pos agi, a8 hk, sb, sb, Eg _ (h _ (aef hk)), sb, if_pos rfl, aS agi]) (by rw [iB, if_neg agi])
 unfold mh
 rw [if_pos rfl, e]; rfl
theorem Gr (a : aC) (h : FB a) : oW a a = some true := by
 unfold oW
 simp [uX _ h.ps, uX _ h.us, AD _ h.sl, Gq _ h.cd, sb]
theorem Ei (a : aw) (h : CB a) : nE a a = some true := by
 unfold nE
 simp [Cw _ h.fs h.iw, AB _ h.ms, sb]
theorem Ej (l : List aC) (hn : l.length ≤ 2000000) (h : ∀ x ∈ l, FB x) : nC l l = some true := by
 have e : jg l l 0 = some (.inl ()) := lM l.length (fun k hk => by rw [jg, if_pos agi, a8 hk, sb, sb, Gr _ (h _ (aef hk)), sb, if_pos rfl, aS agi]) (by rw [jg, if_neg agi])
 unfold nC
 rw [if_pos rfl, e]; rfl
theorem Cx (l : List aw) (hn : l.length ≤ 2000000) (h : ∀ x ∈ l, CB x) : mi l l = some true := by
 have e : iC l l 0 = some (.inl ()) := lM l.length (fun k hk => by rw [iC, if_pos agi, a8 hk, sb, sb, Ei _ (h _ (aef hk)), sb, if_pos rfl, aS agi]) (by rw [iC, if_neg agi])
 unfold mi
 rw [if_pos rfl, e]; rfl
theorem AE (p : aD) (h : PB p) : lf p p = some true := by
 unfold lf
 simp [Ej _ h.fl h.fb, Cx _ h.cl h.cb, sb]
theorem C2 {n : Nat} : BitVec.ofInt IntKind.i64.bits (n : Int) = BitVec.ofNat 64 n := by apply BitVec.eq_of_toInt_eq; simp [IntKind.bits]
theorem T2 {n : Nat} (h : n < 9223372036854775808) : bits .and .i64 (n : Int) 127 = ((n % 128 : Nat) : Int) := by
 have e2 : BitVec.ofInt IntKind.i64.bits 127 = BitVec.ofNat 64 127 := by rfl
 have e3 : (BitVec.ofNat 64 n &&& BitVec.ofNat 64 127).toNat = n % 128 := by
  rw [BitVec.toNat_and, BitVec.toNat_ofNat, BitVec.toNat_ofNat, Nat.mod_eq_of_lt (a := n) agi]
  exact Nat.and_two_pow_sub_one_eq_mod n 7
 unfold bits
 simp only [C2, e2]
 show IntKind.i64.wrap ((BitVec.ofNat 64 n &&& BitVec.ofNat 64 127).toNat : Int) = _
 rw [e3, HW agi agi]
theorem T3 {n a j : Nat} (hn : n < 2 ^ j) (h : 2 ^ j * a + n < 9223372036854775808) : bits .or .i64 (n : Int) ((2 ^ j * a : Nat) : Int) = ((2 ^ j * a + n : Nat) : Int) := by
 have e3 : (BitVec.ofNat 64 n ||| BitVec.ofNat 64 (2 ^ j * a)).toNat = 2 ^ j * a + n := by
  rw [BitVec.toNat_or, BitVec.toNat_ofNat, BitVec.toNat_ofNat, Nat.mod_eq_of_lt (a := n) agi, Nat.mod_eq_of_lt (a := 2 ^ j * a) agi, Nat.or_comm]
  exact (Nat.two_pow_add_eq_or_of_lt hn a).symm
 unfold bits
 simp only [C2]
 show IntKind.i64.wrap ((BitVec.ofNat 64 n ||| BitVec.ofNat 64 (2 ^ j * a)).toNat : Int) = _
 rw [e3, HW agi agi]
section
variable {b : List UInt8} {n : Nat} {bad : Bool} {s : Int}
end
section
variable {b : List UInt8} {n : Nat} {bad : Bool} {s : Int}
end
theorem M8 {v : af} (h : Iy v = true) : v.wt ≤ 1 := by
 cases v with
 | mk k n s x l =>
  unfold Iy at h
  rw [tr] at h
  simp only [an, aeH, decide_eq_true_eq, List.isEmpty_iff] at h
  have h2 : k ≤ 3 := h.2
  have h3 : l = [] := by
   rcases h.1.2.1.2 with h4 | h4
   ·omega
   ·exact h4.2
  subst h3
  exact aeb _
theorem oC {α : Type} (a : List α) {L : List α → Int → Option (List α)} (hs : ∀ (l : List α) (k : Nat) (h : k < a.length), l.length = a.length → L l (k : Int) = L (l.set k a[k]) ((k + 1 : Nat) : Int))
  (he : ∀ l, L l (a.length : Int) = some l) : ∀ (f k : Nat) (l : List α), a.length ≤ k + f → k ≤ a.length → l.length = a.length → (∀ j, j < k → l[j]? = a[j]?) → L l (k : Int) = some a
 | f, k, l, hf, hk, hl, hj => by
  by_cases hc : k < a.length
  ·obtain ⟨g, rfl⟩ : ∃ g, f = g + 1 := ⟨f - 1, by omega⟩
   rw [hs l k hc hl]
   refine oC a hs he g (k + 1) _ agi agi (by rw [afa]; exact hl) (fun j hj2 => ?_)
   rw [List.getElem?_set]
   by_cases h : k = j
   ·subst h
    rw [if_pos rfl, if_pos agi, As hc]
   ·rw [if_neg h]; exact hj j agi
  ·have : k = a.length := by omega
   subst this
   rw [he l]
   congr 1
   refine List.ext_getElem? fun j => ?_
   by_cases h : j < a.length
   ·exact hj j h
   ·rw [aeC agi, aeC agi]
theorem mk_eq {α : Type} [Inhabited α] {b n : Nat} (hn : n ≤ 2000000) (hb : b ≤ 1000) : (nv b (n : Int) (n : Int) : Option (List α)) = some (List.replicate n default) := by
 unfold nv
 have : n * b ≤ 2000000 * 1000 := Nat.mul_le_mul hn hb
 rw [if_pos ⟨by omega, by omega, by omega, by simp only [aep]; omega⟩]; rfl
theorem Lb (k : Int) : ((UInt8.ofNat (IntKind.u8.wrap k).toNat).toNat : Int) = IntKind.u8.wrap k := by
 have h : 0 ≤ IntKind.u8.wrap k ∧ IntKind.u8.wrap k < 256 := by rw [IntKind.wrap_u8]; omega
 rw [UInt8.toNat_ofNat']
 omega
theorem Qu (l : List UInt8) (k : Nat) (h : k + 7 * l.length ≤ 100000000000000) : ∃ (k' : Nat) (l' : List UInt8), jK l (k : Int) = some ((k' : Int), l') ∧ k ≤ k' ∧ k' ≤ k + 7 * l.length ∧ l'.length = l.length ∧ iY l' (k : Int) = some (k' : Int) := by
 obtain ⟨k', l', e1, e2, e3, e4, e5⟩ := qm 100000000000000 (L := gJ) (H := gN) l (fun _ => 0) (fun x hx k hk => by
  have Sb := lC (z := (fun _ => 0)) l
  have PK := pq (z := (fun _ => 0)) hx
  refine ⟨k + 1, UInt8.ofNat (IntKind.u8.wrap (k : Int)).toNat, by omega, by omega, fun m i hi hm => ?_, fun m i hi hl hm => ?_⟩
  ·rw [gJ, if_pos agi, hm, sb, aS agi, aS agi, aep]
  ·rw [gN, if_pos agi, hm, sb, if_pos (Lb _), aS agi, aS agi]) (fun m k => by rw [gJ, if_neg agi]) (fun m k => by rw [gN, if_neg agi]) k (by rw [wv]; omega)
 refine ⟨k', l', ?_, e2, by rw [wv] at e3; omega, e4, ?_⟩
 ·unfold jK; rw [e1, sb]
 ·unfold iY; rw [e5, sb]
theorem pY {y : Int} {n : Nat} (h0 : 0 ≤ y) (h1 : y ≤ 1048576) (hn : n ≤ 9223372036854775807) : ah (y - (n : Int)) = y - (n : Int) := HW agi agi
theorem yD {α : Type} {L : Int → Int → Option (Int ⊕ Int)} (l : List α) (sz : α → Int → Option Int) (c : α → Nat) (Q : α → Prop) (hl : l.length ≤ 1048576)
  (iQ : ∀ x ∈ l, ∀ y : Int, 0 ≤ y → y ≤ 1048576 → ∃ v, sz x y = some v ∧ (v < 0 ∨ (0 ≤ v ∧ v + c x ≤ y ∧ Q x)))
  (hs : ∀ (i : Nat) (hi : i < l.length) (y : Int), 0 ≤ y → y ≤ 1048576 → L y (i : Int) = (sz l[i] y >>= fun v => if v < 0 then some (.inr (-1)) else L v ((i + 1 : Nat) : Int)))
  (he : ∀ y, L y (l.length : Int) = some (.inl y)) : ∀ (m i : Nat), i + m = l.length → ∀ y : Int, 0 ≤ y → y ≤ 1048576 → ∃ o, L y (i : Int) = some o ∧ (o = .inr (-1) ∨ ∃ z, o = .inl z ∧ 0 ≤ z ∧ z + ((l.drop i).map c).sum ≤ y ∧ ∀ x ∈ l.drop i, Q x) := by
 intro m
 induction m with
 | zero =>
  intro i h y y0 y1
  obtain rfl : i = l.length := by omega
  refine ⟨_, he y, .inr ⟨y, rfl, y0, by rw [List.drop_length]; simp, fun x hx => by rw [List.drop_length] at hx; simp at hx⟩⟩
 | succ m ih =>
  intro i h y y0 y1
  have hi : i < l.length := by omega
  obtain ⟨v, e, hv⟩ := iQ l[i] (aef hi) y y0 y1
  rw [hs i hi y y0 y1, e, sb]
  rcases hv with hv | ⟨v0, v1, hQ⟩
  ·rw [if_pos hv]; exact ⟨_, rfl, .inl rfl⟩
  ·rw [if_neg agi]
   obtain ⟨o, e2, ho⟩ := ih (i + 1) agi v v0 agi
   refine ⟨o, e2, ?_⟩
   rcases ho with ho | ⟨z, ho, z0, z1, z2⟩
   ·exact .inl ho
   ·refine .inr ⟨z, ho, z0, ?_, ?_⟩
    ·rw [aey hi]; simp only [aeg, List.sum_cons]; omega
    ·intro x hx
     rw [aey hi] at hx
     rcases aej.1 hx with rfl | hx
     ·exact hQ
     ·exact z2 x hx
structure FT (f : aC) : Prop where
 nm : f.ao.length ≤ 1048576
 ps : ∀ p ∈ f.ak, p.ao.length ≤ 1048576
 us : ∀ p ∈ f.aE, p.ao.length ≤ 1048576
 sl : ∀ s ∈ f.ar, s.length ≤ 1048576
 cd : ∀ i ∈ f.aq, i.fS.length ≤ 1048576 ∧ i.fT.length ≤ 1048576
structure CT (c : aw) : Prop where
 nm : c.ao.length ≤ 1048576
 pa : c.bD.length ≤ 1048576
 fs : ∀ x ∈ c.aA, (x.ao.length ≤ 1048576 ∧ x.bn.length ≤ 1048576) ∧ x.aH.wt ≤ 1048577
 ms : ∀ m ∈ c.av, m.ao.length ≤ 1048576 ∧ m.bn.length ≤ 1048576 ∧ m.fh.length ≤ 1048576
def zE (x : aB) : Nat := x.aH.wt - 1
def zL (c : aw) : Nat := zS zE c.aA + c.av.length
theorem IA {x : TParam} (h : x.Ok) {y : Int} (h0 : 0 ≤ y) (h1 : y ≤ 1048576) : ∃ v, lH x y = some v ∧ (v < 0 ∨ (0 ≤ v ∧ v + (0 : Nat) ≤ y ∧ x.ao.length ≤ 1048576)) := by
 unfold lH
 rw [pY h0 h1 h.h0]
 by_cases hz : y - (x.ao.length : Int) < 0
 ·rw [if_pos hz]; exact ⟨_, rfl, .inl agj⟩
 ·rw [if_neg hz]; exact ⟨_, rfl, .inr ⟨by omega, by omega, by omega⟩⟩
theorem M9 {x : aR} (h : x.Ok) {y : Int} (h0 : 0 ≤ y) (h1 : y ≤ 1048576) : ∃ v, oK x y = some v ∧ (v < 0 ∨ (0 ≤ v ∧ v + (0 : Nat) ≤ y ∧ x.fS.length ≤ 1048576 ∧ x.fT.length ≤ 1048576)) := by
 unfold oK
 rw [pY h0 h1 h.h0]
 by_cases hz : y - (x.fS.length : Int) < 0
 ·rw [if_pos hz]; exact ⟨_, rfl, .inl agj⟩
 ·rw [if_neg hz, pY agi agi h.h1]
  by_cases hw : y - (x.fS.length : Int) - (x.fT.length : Int) < 0
  ·rw [if_pos hw]; exact ⟨_, rfl, .inl agj⟩
  ·rw [if_neg hw]; exact ⟨_, rfl, .inr ⟨by omega, by omega, by omega, by omega⟩⟩
theorem Gs {x : ax} (h : x.Ok) {y : Int} (h0 : 0 ≤ y) (h1 : y ≤ 1048576) : ∃ v, kJ x y = some v ∧ (v < 0 ∨ (0 ≤ v ∧ v + (0 : Nat) ≤ y ∧ x.ao.length ≤ 1048576 ∧ x.bn.length ≤ 1048576 ∧ x.fh.length ≤ 1048576)) := by
 unfold kJ
 rw [pY h0 h1 h.h0]
 by_cases hz : y - (x.ao.length : Int) < 0
 ·rw [if_pos hz]; exact ⟨_, rfl, .inl agj⟩
 ·rw [if_neg hz, pY agi agi h.h1]
  by_cases hw : y - (x.ao.length : Int) - (x.bn.length : Int) < 0
  ·rw [if_pos hw]; exact ⟨_, rfl, .inl agj⟩
  ·rw [if_neg hw, pY agi agi h.h2]
   by_cases hu : y - (x.ao.length : Int) - (x.bn.length : Int) - (x.fh.length : Int) < 0
   ·rw [if_pos hu]; exact ⟨_, rfl, .inl agj⟩
   ·rw [if_neg hu]; exact ⟨_, rfl, .inr ⟨by omega, by omega, by omega, by omega, by omega⟩⟩
theorem Na {x : bJ} (h : x.Ok) {y : Int} (h0 : 0 ≤ y) (h1 : y ≤ 1048576) : ∃ v, qT x y = some v ∧ (v < 0 ∨ (0 ≤ v ∧ v ≤ y)) := by
 unfold qT
 rw [pY h0 h1 h.h0]
 by_cases hz : y - (x.bm.length : Int) < 0
 ·rw [if_pos hz]; exact ⟨_, rfl, .inl agj⟩
 ·rw [if_neg hz]; exact ⟨_, rfl, .inr ⟨by omega, by omega⟩⟩
theorem yE {l : List TParam} (hl : l.length ≤ 9223372036854775807) (h : ∀ x ∈ l, x.Ok) {k : Int} (h0 : 0 ≤ k) (h1 : k ≤ 1048576) : ∃ v, kI l k = some v ∧ (v < 0 ∨ (0 ≤ v ∧ v + zS (fun _ => 0) l ≤ k ∧ ∀ x ∈ l, x.ao.length ≤ 1048576)) := by
 unfold kI
 rw [pY h0 h1 hl]
 by_cases hz : k - (l.length : Int) < 0
 ·rw [if_pos hz]; exact ⟨_, rfl, .inl agj⟩
 ·rw [if_neg hz]
  obtain ⟨o, e, ho⟩ := yD (L := il l) l lH (fun _ => 0) (fun x => x.ao.length ≤ 1048576) agi (fun x hx y y0 y1 => IA (h x hx) y0 y1) (fun i hi y y0 y1 => by rw [il, if_pos agi, a8 hi, sb, aS agi]) (fun y => by rw [il, if_neg agi]) l.length 0 agi (k - (l.length : Int)) agi agi
  rw [show ((0 : Nat) : Int) = 0 from rfl] at e
  rw [e, sb]
  rcases ho with rfl | ⟨z, rfl, z0, z1, z2⟩
  ·exact agd
  ·rw [aeI] at z1 z2
   exact aga
theorem Ek {l : List ba} (hl : l.length ≤ 9223372036854775807) (h : ∀ x ∈ l, x.length ≤ 9223372036854775807) {k : Int} (h0 : 0 ≤ k) (h1 : k ≤ 1048576) : ∃ v, kZ l k = some v ∧ (v < 0 ∨ (0 ≤ v ∧ v + zS (fun _ => 0) l ≤ k ∧ ∀ x ∈ l, x.length ≤ 1048576)) := by
 unfold kZ
 rw [pY h0 h1 hl]
 by_cases hz : k - (l.length : Int) < 0
 ·rw [if_pos hz]; exact ⟨_, rfl, .inl agj⟩
 ·rw [if_neg hz]
  obtain ⟨o, e, ho⟩ := yD (L := gz l) l (fun x y => some (ah (y - (x.length : Int)))) (fun _ => 0) (fun x => x.length ≤ 1048576) agi (fun x hx y y0 y1 => ⟨_, rfl, by rw [pY y0 y1 (h x hx)]; omega⟩) (fun i hi y y0 y1 => by rw [gz, if_pos agi, a8 hi, sb, aS agi]; rfl) (fun y => by rw [gz, if_neg agi]) l.length 0 agi (k - (l.length : Int)) agi agi
  rw [show ((0 : Nat) : Int) = 0 from rfl] at e
  rw [e, sb]
  rcases ho with rfl | ⟨z, rfl, z0, z1, z2⟩
  ·exact agd
  ·rw [aeI] at z1 z2
   exact aga
theorem Lc {l : List aR} (hl : l.length ≤ 9223372036854775807) (h : ∀ x ∈ l, x.Ok) {k : Int} (h0 : 0 ≤ k) (h1 : k ≤ 1048576) : ∃ v, oR l k = some v ∧ (v < 0 ∨ (0 ≤ v ∧ v + zS (fun _ => 0) l ≤ k ∧ ∀ x ∈ l, x.fS.length ≤ 1048576 ∧ x.fT.length ≤ 1048576)) := by
 unfold oR
 rw [pY h0 h1 hl]
 by_cases hz : k - (l.length : Int) < 0
 ·rw [if_pos hz]; exact ⟨_, rfl, .inl agj⟩
 ·rw [if_neg hz]
  obtain ⟨o, e, ho⟩ := yD (L := jG l) l oK (fun _ => 0) (fun x => x.fS.length ≤ 1048576 ∧ x.fT.length ≤ 1048576) agi (fun x hx y y0 y1 => M9 (h x hx) y0 y1) (fun i hi y y0 y1 => by rw [jG, if_pos agi, a8 hi, sb, aS agi]) (fun y => by rw [jG, if_neg agi]) l.length 0 agi (k - (l.length : Int)) agi agi
  rw [show ((0 : Nat) : Int) = 0 from rfl] at e
  rw [e, sb]
  rcases ho with rfl | ⟨z, rfl, z0, z1, z2⟩
  ·exact agd
  ·rw [aeI] at z1 z2
   exact aga
theorem El {l : List ax} (hl : l.length ≤ 9223372036854775807) (h : ∀ x ∈ l, x.Ok) {k : Int} (h0 : 0 ≤ k) (h1 : k ≤ 1048576) : ∃ v, k5 l k = some v ∧ (v < 0 ∨ (0 ≤ v ∧ v + zS (fun _ => 0) l ≤ k ∧ ∀ x ∈ l, x.ao.length ≤ 1048576 ∧ x.bn.length ≤ 1048576 ∧ x.fh.length ≤ 1048576)) := by
 unfold k5
 rw [pY h0 h1 hl]
 by_cases hz : k - (l.length : Int) < 0
 ·rw [if_pos hz]; exact ⟨_, rfl, .inl agj⟩
 ·rw [if_neg hz]
  obtain ⟨o, e, ho⟩ := yD (L := gA l) l kJ (fun _ => 0) (fun x => x.ao.length ≤ 1048576 ∧ x.bn.length ≤ 1048576 ∧ x.fh.length ≤ 1048576) agi (fun x hx y y0 y1 => Gs (h x hx) y0 y1) (fun i hi y y0 y1 => by rw [gA, if_pos agi, a8 hi, sb, aS agi]) (fun y => by rw [gA, if_neg agi]) l.length 0 agi (k - (l.length : Int)) agi agi
  rw [show ((0 : Nat) : Int) = 0 from rfl] at e
  rw [e, sb]
  rcases ho with rfl | ⟨z, rfl, z0, z1, z2⟩
  ·exact agd
  ·rw [aeI] at z1 z2
   exact aga
theorem Ke : ∀ l : List ae, ae.zN l = zS (fun e : ae => e.aL.wt - 1) l
 | [] => rfl
 | e :: l => by
  have := jW e.aL
  rw [nK, nq, Ke l]
  omega
theorem IB : ∀ (n : Nat) (v : af), v.wt ≤ n → v.Ok → ∀ y : Int, 0 ≤ y → y ≤ 1048576 → ∃ r, kd v y = some r ∧ (r < 0 ∨ (0 ≤ r ∧ r + (v.wt - 1 : Nat) ≤ y)) := by
 intro n
 induction n with
 | zero => intro v hv; have := jW v; omega
 | succ n ih =>
  intro v hv xI y y0 y1
  obtain ⟨k1, k2, k3⟩ := xI.inv
  have X0 := v.pr
  rw [kd, pY y0 y1 k1]
  by_cases hz : y - (v.bm.length : Int) < 0
  ·rw [if_pos hz]; exact ⟨_, rfl, .inl agj⟩
  rw [if_neg hz]
  have q0 : 0 ≤ y - (v.bm.length : Int) := by omega
  have q1 : y - (v.bm.length : Int) ≤ 1048576 := by omega
  generalize hy2 : y - (v.bm.length : Int) = y2 at q0 q1 hz ⊢
  have main : ∃ r, ot v.ai y2 = some r ∧ (r < 0 ∨ (0 ≤ r ∧ r + (v.wt - 1 : Nat) ≤ y2)) := by
   rw [ot, pY q0 q1 k2]
   by_cases hz : y2 - (v.ai.length : Int) < 0
   ·rw [if_pos hz]; exact ⟨_, rfl, .inl agj⟩
   ·rw [if_neg hz]
    obtain ⟨o, e, ho⟩ := yD (L := im v.ai) v.ai qe (fun e : ae => e.aL.wt - 1) (fun _ => True) agi (fun x hx y y0 y1 => by
     obtain ⟨g1, g2⟩ := (k3 x hx).inv
     obtain ⟨u, e1, hu⟩ := Na g1 y0 y1
     have hx1 := wx _ _ hx
     rw [qe, e1, sb]
     rcases hu with hu | ⟨u0, u1⟩
     ·rw [if_pos hu]; exact ⟨_, rfl, .inl agj⟩
     ·rw [if_neg agi]
      obtain ⟨u2, e2, FC⟩ := ih x.aL agi g2 u u0 agi
      rw [e2, sb]
      rcases FC with FC | ⟨u3, u4⟩
      ·rw [if_pos FC]; exact ⟨_, rfl, .inl agj⟩
      ·rw [if_neg agi]; exact ⟨_, rfl, .inr ⟨u3, by omega, trivial⟩⟩) (fun i hi y y0 y1 => by rw [im, if_pos agi, a8 hi, sb, aS agi]) (fun y => by rw [im, if_neg agi]) v.ai.length 0 agi (y2 - (v.ai.length : Int)) agi agi
    rw [show ((0 : Nat) : Int) = 0 from rfl] at e
    rw [e, sb]
    rcases ho with rfl | ⟨z, rfl, z0, z1, z2⟩
    ·exact agd
    ·rw [aeI] at z1
     have := Ke v.ai
     unfold zS at this
     exact ⟨_, rfl, .inr ⟨z0, by omega⟩⟩
  obtain ⟨r, e, hr⟩ := main
  rw [e, sb]
  rcases hr with hr | ⟨r0, r1⟩
  ·rw [if_pos hr]; exact ⟨_, rfl, .inl agj⟩
  ·rw [if_neg agi]; exact ⟨_, rfl, .inr ⟨r0, by omega⟩⟩
theorem IC {x : aB} (h : x.Ok) {y : Int} (h0 : 0 ≤ y) (h1 : y ≤ 1048576) : ∃ v, lI x y = some v ∧ (v < 0 ∨ (0 ≤ v ∧ v + zE x ≤ y ∧ (x.ao.length ≤ 1048576 ∧ x.bn.length ≤ 1048576) ∧ x.aH.wt ≤ 1048577)) := by
 unfold lI
 rw [pY h0 h1 h.h0]
 by_cases hz : y - (x.ao.length : Int) < 0
 ·rw [if_pos hz]; exact ⟨_, rfl, .inl agj⟩
 ·rw [if_neg hz, pY agi agi h.h1]
  by_cases hw : y - (x.ao.length : Int) - (x.bn.length : Int) < 0
  ·rw [if_pos hw]; exact ⟨_, rfl, .inl agj⟩
  ·rw [if_neg hw]
   obtain ⟨u, e, hu⟩ := IB _ x.aH (aeb _) h.h2 (y - (x.ao.length : Int) - (x.bn.length : Int)) agi agi
   rw [e, sb]
   rcases hu with hu | ⟨u0, u1⟩
   ·rw [if_pos hu]; exact ⟨_, rfl, .inl agj⟩
   ·rw [if_neg agi]; exact ⟨_, rfl, .inr ⟨u0, by unfold zE; omega, by omega, by omega⟩⟩
theorem Gt {l : List aB} (hl : l.length ≤ 9223372036854775807) (h : ∀ x ∈ l, x.Ok) {k : Int} (h0 : 0 ≤ k) (h1 : k ≤ 1048576) : ∃ v, lX l k = some v ∧ (v < 0 ∨ (0 ≤ v ∧ v + zS zE l ≤ k ∧ ∀ x ∈ l, (x.ao.length ≤ 1048576 ∧ x.bn.length ≤ 1048576) ∧ x.aH.wt ≤ 1048577)) := by
 unfold lX
 rw [pY h0 h1 hl]
 by_cases hz : k - (l.length : Int) < 0
 ·rw [if_pos hz]; exact ⟨_, rfl, .inl agj⟩
 ·rw [if_neg hz]
  obtain ⟨o, e, ho⟩ := yD (L := iq l) l lI zE (fun x => (x.ao.length ≤ 1048576 ∧ x.bn.length ≤ 1048576) ∧ x.aH.wt ≤ 1048577) agi (fun x hx y y0 y1 => IC (h x hx) y0 y1) (fun i hi y y0 y1 => by rw [iq, if_pos agi, a8 hi, sb, aS agi]) (fun y => by rw [iq, if_neg agi]) l.length 0 agi (k - (l.length : Int)) agi agi
  rw [show ((0 : Nat) : Int) = 0 from rfl] at e
  rw [e, sb]
  rcases ho with rfl | ⟨z, rfl, z0, z1, z2⟩
  ·exact agd
  ·rw [aeI] at z1 z2
   exact aga
theorem Ld {a : aC} (h : a.Ok) {y : Int} (h0 : 0 ≤ y) (h1 : y ≤ 1048576) : ∃ v, mS a y = some v ∧ (v < 0 ∨ (0 ≤ v ∧ v + zF a ≤ y ∧ FT a)) := by
 unfold mS
 rw [pY h0 h1 h.h0]
 by_cases hz : y - (a.ao.length : Int) < 0
 ·rw [if_pos hz]; exact ⟨_, rfl, .inl agj⟩
 rw [if_neg hz]
 obtain ⟨v1, e1, c1⟩ := yE h.h1 h.h2 (k := y - (a.ao.length : Int)) agi agi
 rw [e1, sb]
 rcases c1 with c1 | ⟨p1, p2, p3⟩
 ·rw [if_pos c1]; exact ⟨_, rfl, .inl agj⟩
 rw [if_neg agi]
 obtain ⟨v2, e2, c2⟩ := yE h.h3 h.h4 (k := v1) agi agi
 rw [e2, sb]
 rcases c2 with c2 | ⟨q1, q2, q3⟩
 ·rw [if_pos c2]; exact ⟨_, rfl, .inl agj⟩
 rw [if_neg agi]
 obtain ⟨v3, e3, c3⟩ := Ek h.h5 h.h6 (k := v2) agi agi
 rw [e3, sb]
 rcases c3 with c3 | ⟨r1, r2, r3⟩
 ·rw [if_pos c3]; exact ⟨_, rfl, .inl agj⟩
 rw [if_neg agi]
 obtain ⟨v4, e4, c4⟩ := Lc h.h7 h.h8 (k := v3) agi agi
 rw [e4, sb]
 rcases c4 with c4 | ⟨s1, s2, s3⟩
 ·rw [if_pos c4]; exact ⟨_, rfl, .inl agj⟩
 rw [if_neg agi]
 rw [wv] at p2 q2 r2 s2
 exact ⟨_, rfl, .inr ⟨s1, by unfold zF; omega, ⟨by omega, p3, q3, r3, s3⟩⟩⟩
theorem ID {a : aw} (h : a.Ok) {y : Int} (h0 : 0 ≤ y) (h1 : y ≤ 1048576) : ∃ v, lK a y = some v ∧ (v < 0 ∨ (0 ≤ v ∧ v + zL a ≤ y ∧ CT a)) := by
 unfold lK
 rw [pY h0 h1 h.h0]
 by_cases hz : y - (a.ao.length : Int) < 0
 ·rw [if_pos hz]; exact ⟨_, rfl, .inl agj⟩
 rw [if_neg hz, pY agi agi h.h1]
 by_cases hw : y - (a.ao.length : Int) - (a.bD.length : Int) < 0
 ·rw [if_pos hw]; exact ⟨_, rfl, .inl agj⟩
 rw [if_neg hw]
 obtain ⟨v1, e1, c1⟩ := Gt h.h2 h.h3 (k := y - (a.ao.length : Int) - (a.bD.length : Int)) agi agi
 rw [e1, sb]
 rcases c1 with c1 | ⟨p1, p2, p3⟩
 ·rw [if_pos c1]; exact ⟨_, rfl, .inl agj⟩
 rw [if_neg agi]
 obtain ⟨v2, e2, c2⟩ := El h.h4 h.h5 (k := v1) agi agi
 rw [e2, sb]
 rcases c2 with c2 | ⟨q1, q2, q3⟩
 ·rw [if_pos c2]; exact ⟨_, rfl, .inl agj⟩
 rw [if_neg agi]
 rw [wv] at q2
 exact ⟨_, rfl, .inr ⟨q1, by unfold zL; omega, ⟨by omega, by omega, p3, q3⟩⟩⟩
theorem IE {l : List aC} (hl : l.length ≤ 9223372036854775807) (h : ∀ x ∈ l, x.Ok) {k : Int} (h0 : 0 ≤ k) (h1 : k ≤ 1048576) : ∃ v, nu l k = some v ∧ (v < 0 ∨ (0 ≤ v ∧ v + zS zF l ≤ k ∧ ∀ x ∈ l, FT x)) := by
 unfold nu
 rw [pY h0 h1 hl]
 by_cases hz : k - (l.length : Int) < 0
 ·rw [if_pos hz]; exact ⟨_, rfl, .inl agj⟩
 ·rw [if_neg hz]
  obtain ⟨o, e, ho⟩ := yD (L := je l) l mS zF (fun x => FT x) agi (fun x hx y y0 y1 => Ld (h x hx) y0 y1) (fun i hi y y0 y1 => by rw [je, if_pos agi, a8 hi, sb, aS agi]) (fun y => by rw [je, if_neg agi]) l.length 0 agi (k - (l.length : Int)) agi agi
  rw [show ((0 : Nat) : Int) = 0 from rfl] at e
  rw [e, sb]
  rcases ho with rfl | ⟨z, rfl, z0, z1, z2⟩
  ·exact agd
  ·rw [aeI] at z1 z2
   exact aga
theorem Gu {l : List aw} (hl : l.length ≤ 9223372036854775807) (h : ∀ x ∈ l, x.Ok) {k : Int} (h0 : 0 ≤ k) (h1 : k ≤ 1048576) : ∃ v, lY l k = some v ∧ (v < 0 ∨ (0 ≤ v ∧ v + zS zL l ≤ k ∧ ∀ x ∈ l, CT x)) := by
 unfold lY
 rw [pY h0 h1 hl]
 by_cases hz : k - (l.length : Int) < 0
 ·rw [if_pos hz]; exact ⟨_, rfl, .inl agj⟩
 ·rw [if_neg hz]
  obtain ⟨o, e, ho⟩ := yD (L := ir l) l lK zL (fun x => CT x) agi (fun x hx y y0 y1 => ID (h x hx) y0 y1) (fun i hi y y0 y1 => by rw [ir, if_pos agi, a8 hi, sb, aS agi]) (fun y => by rw [ir, if_neg agi]) l.length 0 agi (k - (l.length : Int)) agi agi
  rw [show ((0 : Nat) : Int) = 0 from rfl] at e
  rw [e, sb]
  rcases ho with rfl | ⟨z, rfl, z0, z1, z2⟩
  ·exact agd
  ·rw [aeI] at z1 z2
   exact aga
theorem Em {a : aD} (h : a.Ok) : ∃ v, k6 a 1048576 = some v ∧ (v < 0 ∨ (zS zF a.aG + zS zL a.ay ≤ 1048576 ∧ (∀ x ∈ a.aG, FT x) ∧ ∀ x ∈ a.ay, CT x)) := by
 unfold k6
 obtain ⟨v1, e1, c1⟩ := IE h.h0 h.h1 (k := 1048576) agi agi
 rw [e1, sb]
 rcases c1 with c1 | ⟨p1, p2, p3⟩
 ·rw [if_pos c1]; exact ⟨_, rfl, .inl agj⟩
 rw [if_neg agi]
 obtain ⟨v2, e2, c2⟩ := Gu h.h2 h.h3 (k := v1) agi agi
 rw [e2, sb]
 rcases c2 with c2 | ⟨q1, q2, q3⟩
 ·rw [if_pos c2]; exact ⟨_, rfl, .inl agj⟩
 rw [if_neg agi]
 exact ⟨_, rfl, .inr ⟨by omega, p3, q3⟩⟩
structure Small (p : aD) : Prop where
 n : zS zF p.aG + zS zL p.ay ≤ 1048576
 f : ∀ x ∈ p.aG, FT x
 c : ∀ x ∈ p.ay, CT x
theorem Sd {p : aD} (h : Small p) {f : aC} (hf : f ∈ p.aG) : zF f ≤ 1048576 := by
 have := pq (z := zF) hf
 have := h.n
 omega
theorem Se {p : aD} (h : Small p) {c : aw} (hc : c ∈ p.ay) : zL c ≤ 1048576 := by
 have := pq (z := zL) hc
 have := h.n
 omega
theorem Small.pb {p : aD} (h : Small p) : PB p := by
 have h1 := lC (z := zF) p.aG
 have h2 := lC (z := zL) p.ay
 have h3 := h.n
 refine ⟨by omega, by omega, fun f hf => ?_, fun c hc => ?_⟩
 ·have h4 := Sd h hf
  unfold zF at h4
  have h5 := h.f f hf
  exact ⟨by have := h5.nm; omega, by omega, by omega, by omega, by omega⟩
 ·have h4 := Se h hc
  have h6 := lC (z := zE) c.aA
  unfold zL at h4
  have h5 := h.c c hc
  exact ⟨by omega, by omega, fun x hx => by have := (h5.fs x hx).2; omega, fun m hm => by have := h5.ms m hm; omega⟩
theorem X1 (c : aw) : zK c ≤ 2 * zL c := by
 have : ∀ l : List aB, zS zD l ≤ 2 * zS zE l := by
  intro l
  induction l with
  | nil => exact aeb _
  | cons x l ih =>
   rw [nq, nq]
   have := jW x.aH
   simp only [zD, zE]; omega
 have := this c.aA
 unfold zK zL
 omega
theorem Small.zp {p : aD} (h : Small p) : zP p ≤ 4194304 := by
 have : ∀ l : List aw, zS zK l ≤ 2 * zS zL l := by
  intro l
  induction l with
  | nil => exact aeb _
  | cons x l ih =>
   rw [nq, nq]
   have := X1 x
   omega
 have := this p.ay
 have := h.n
 unfold zP
 omega
theorem yF (a : List TParam) (hn : a.length ≤ 2000000) : kK a = some a := by
 unfold kK
 have e := oC a (L := iu a) (fun l k hk hl => by rw [iu, if_pos agi, a8 hk, sb, a8 agi, sb, aS agi]; rfl) (fun l => by rw [iu, if_neg agi]) a.length 0 (List.replicate a.length default) agi agi agk (fun j h => absurd h agi)
 rw [show ((0 : Nat) : Int) = 0 from rfl] at e
 rw [mk_eq hn agi, sb, e]; rfl
theorem En (a : List ba) (hn : a.length ≤ 2000000) : k7 a = some a := by
 unfold k7
 have e := oC a (L := gB a) (fun l k hk hl => by rw [gB, if_pos agi, a8 hk, sb, a8 agi, sb, aS agi]; rfl) (fun l => by rw [gB, if_neg agi]) a.length 0 (List.replicate a.length default) agi agi agk (fun j h => absurd h agi)
 rw [show ((0 : Nat) : Int) = 0 from rfl] at e
 rw [mk_eq hn agi, sb, e]; rfl
theorem Le (a : List aR) (hn : a.length ≤ 2000000) : oS a = some a := by
 unfold oS
 have e := oC a (L := jH a) (fun l k hk hl => by rw [jH, if_pos agi, a8 hk, sb, a8 agi, sb, aS agi]; rfl) (fun l => by rw [jH, if_neg agi]) a.length 0 (List.replicate a.length default) agi agi agk (fun j h => absurd h agi)
 rw [show ((0 : Nat) : Int) = 0 from rfl] at e
 rw [mk_eq hn agi, sb, e]; rfl
theorem Eo (a : List ax) (hn : a.length ≤ 2000000) : k8 a = some a := by
 unfold k8
 have e := oC a (L := gE a) (fun l k hk hl => by rw [gE, if_pos agi, a8 hk, sb, a8 agi, sb, aS agi]; rfl) (fun l => by rw [gE, if_neg agi]) a.length 0 (List.replicate a.length default) agi agi agk (fun j h => absurd h agi)
 rw [show ((0 : Nat) : Int) = 0 from rfl] at e
 rw [mk_eq hn agi, sb, e]; rfl
theorem Lf (a : aC) (h : FB a) : oU a = some a := by
 unfold oU
 rw [yF _ h.ps, sb, yF _ h.us, sb, En _ h.sl, sb, Le _ h.cd, sb]
theorem IF (a : List aC) (hn : a.length ≤ 2000000) (h : ∀ x ∈ a, FB x) : nx a = some a := by
 unfold nx
 have e := oC a (L := jf a) (fun l k hk hl => by rw [jf, if_pos agi, a8 hk, sb, Lf _ (h _ (aef hk)), sb, a8 agi, sb, aS agi]; rfl) (fun l => by rw [jf, if_neg agi]) a.length 0 (List.replicate a.length default) agi agi agk (fun j h => absurd h agi)
 rw [show ((0 : Nat) : Int) = 0 from rfl] at e
 rw [mk_eq hn agi, sb, e]; rfl
theorem IG : ∀ (n : Nat), n ≤ 2000000 → ∀ v : af, v.wt ≤ n → ke v = some v := by
 intro n
 induction n with
 | zero => intro _ v hv; have := jW v; omega
 | succ n ih =>
  intro hn v hv
  have X0 := v.pr
  have PK := zO v.ai
  have e := oC v.ai (L := iv v.ai) (fun l k hk hl => by
   have hx := wx _ _ (aef hk)
   have he : qg v.ai[k] = some v.ai[k] := by
    rw [qg, ih agi _ agi, sb]
    cases v.ai[k]; rfl
   rw [iv, if_pos agi, a8 hk, sb, he, sb, a8 agi, sb, aS agi]; rfl) (fun l => by rw [iv, if_neg agi]) v.ai.length 0 (List.replicate v.ai.length default) agi agi agk (fun j h => absurd h agi)
  rw [show ((0 : Nat) : Int) = 0 from rfl] at e
  rw [ke, rH, mk_eq agi agi, sb, e, sb, sb]
  cases v; rfl
theorem IH (x : aB) (h : x.aH.wt ≤ 2000000) : ny x = some x := by
 unfold ny
 rw [IG _ (aeb _) _ h, sb]
theorem Gv (a : List aB) (hn : a.length ≤ 2000000) (h : ∀ x ∈ a, x.aH.wt ≤ 2000000) : mb a = some a := by
 unfold mb
 have e := oC a (L := iy a) (fun l k hk hl => by rw [iy, if_pos agi, a8 hk, sb, IH _ (h _ (aef hk)), sb, a8 agi, sb, aS agi]; rfl) (fun l => by rw [iy, if_neg agi]) a.length 0 (List.replicate a.length default) agi agi agk (fun j h => absurd h agi)
 rw [show ((0 : Nat) : Int) = 0 from rfl] at e
 rw [mk_eq hn agi, sb, e]; rfl
theorem II (a : aw) (h : CB a) : nz a = some a := by
 unfold nz
 rw [Gv _ h.fs h.iw, sb, Eo _ h.ms, sb]
theorem Gw (a : List aw) (hn : a.length ≤ 2000000) (h : ∀ x ∈ a, CB x) : me a = some a := by
 unfold me
 have e := oC a (L := iz a) (fun l k hk hl => by rw [iz, if_pos agi, a8 hk, sb, II _ (h _ (aef hk)), sb, a8 agi, sb, aS agi]; rfl) (fun l => by rw [iz, if_neg agi]) a.length 0 (List.replicate a.length default) agi agi agk (fun j h => absurd h agi)
 rw [show ((0 : Nat) : Int) = 0 from rfl] at e
 rw [mk_eq hn agi, sb, e]; rfl
theorem Ep (p : aD) (h : PB p) : gg p = some p := by
 unfold gg
 rw [IF _ h.fl h.fb, sb, Gw _ h.cl h.cb, sb]
end Go.Am
