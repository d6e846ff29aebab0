/- The plain law, fourth part: the program's list of work gives the heights. -/
import Derived.Test.YtnehfdofoemnfaaP3
set_option linter.unusedVariables false
set_option linter.unusedSimpArgs false
namespace Go.Am
open Go Go.RowKit Go.Proofs
structure Gave (code : List TIns) (out work : List Int) (a : Nat) (b : Int) (out' work' : List Int) : Prop where
 part : Part code out'
 ext : Ext out out'
 at_ : gI out' a = b
 lt : a < code.length
 lo : 0 ≤ b
 hi : b ≤ 500
 new : ∀ i, 0 ≤ gI out' i → 0 ≤ gI out i ∨ (i : Int) ∈ work'
 sub : ∀ x, x ∈ work → x ∈ work'
 mem : ∀ x, x ∈ work' → x ∈ work ∨ x = (a : Int)
 mu : 2 * neg out' + work'.length ≤ 2 * neg out + work.length
theorem iGave {code : List TIns} {out work : List Int} {a : Nat} {b : Int} (hp : Part code out) (hr : R code a b) (hw : work.length < 1000000000) :
  (m_i_HeightsOf_c1 (a : Int) b out work = some (false, out, work) ∧ ¬ AllGood code) ∨ ∃ out' work', m_i_HeightsOf_c1 (a : Int) b out work = some (true, out', work') ∧ Gave code out work a b out' work' := by
 rw [iGive a b hw]
 by_cases h : Refused out a b
 ·rw [if_pos h]; exact .inl ⟨rfl, refused_bad code hp hr h⟩
 ·obtain ⟨h1, h2, h3, h4, h5, h6, h7, h8, h9⟩ := given code hp hr h
  rw [if_neg h]
  right
  by_cases hn : gI out a < 0
  ·rw [if_pos hn]
   refine ⟨_, _, rfl, h4, h5, h6, h1, h2, h3, fun i hi => (h7 i hi).imp id (fun e => by subst e; simp), fun x hx => by simp [hx], fun x hx => by simpa using hx, ?_⟩
   have := h8 hn
   simp only [List.length_append, List.length_cons, List.length_nil]
   omega
  ·rw [if_neg hn]
   have e := h9 hn
   rw [e] at h4 h5 h6 h7
   exact ⟨_, _, rfl, h4, h5, h6, h1, h2, h3, fun i hi => .inl hi, fun x hx => hx, fun x hx => .inl hx, Nat.le_refl _⟩
structure Inv (code : List TIns) (out work : List Int) : Prop where
 part : Part code out
 ok : ∀ x, x ∈ work → ∃ i : Nat, x = (i : Int) ∧ i < code.length ∧ 0 ≤ gI out i
 done : ∀ i (hi : i < code.length), 0 ≤ gI out i → (i : Int) ∈ work ∨ Done code out i hi
def HEnds (code : List TIns) (o : (List Int) ⊕ (List Int × Bool)) : Prop :=
 (o = .inr ([], false) ∧ ¬ AllGood code) ∨ ∃ out', o = .inl out' ∧ Part code out' ∧ ∀ i (hi : i < code.length), 0 ≤ gI out' i → Done code out' i hi
theorem last_split (l : List Int) (h : 0 < l.length) : ∃ w x, l = w ++ [x] := by
 rcases List.eq_nil_or_concat l with rfl | ⟨w, x, rfl⟩
 ·simp at h
 ·exact ⟨w, x, by simp⟩
theorem iLoop (a0 : TFunc) (hn : a0.fCode.length ≤ 2000000) (hA : ∀ i (hi : i < a0.fCode.length), tgt (a0.fCode[i]).fOp = true → 0 ≤ (a0.fCode[i]).fA) :
  ∀ (M : Nat) (out work : List Int), 2 * neg out + work.length ≤ M → M ≤ 100000000 → Inv a0.fCode out work → ∃ o, m_i_HeightsOf_L4 a0 out work = some o ∧ HEnds a0.fCode o := by
 intro M
 induction M with
 | zero =>
  intro out work hm _ hv
  have : work.length = 0 := by omega
  rw [m_i_HeightsOf_L4, if_neg (by omega)]
  have hw : work = [] := List.eq_nil_of_length_eq_zero this
  subst hw
  exact ⟨_, rfl, .inr ⟨out, rfl, hv.part, fun i hi h => (hv.done i hi h).resolve_left (by simp)⟩⟩
 | succ M ih =>
  intro out work hm hM hv
  rw [m_i_HeightsOf_L4]
  by_cases h0 : 0 < work.length
  ·rw [if_pos (by omega)]
   obtain ⟨w, x, rfl⟩ := last_split work h0
   have hl : (w ++ [x]).length = w.length + 1 := by simp
   have e1 : W64 (((w ++ [x]).length : Int) - 1) = (w.length : Int) := w_nat (by omega) (by omega)
   rw [e1, idx_nat (by omega), sb]
   have e2 : (w ++ [x])[w.length]'(by omega) = x := by simp
   rw [e2]
   have e3 : lto (w ++ [x]) (w.length : Int) = some w := by
    unfold lto
    rw [if_pos ⟨by omega, by omega⟩]
    simp
   rw [e3, sb, sb]
   obtain ⟨i, rfl, hi, hg⟩ := hv.ok x (by simp)
   have hlen := hv.part.len
   rw [idx_nat hi, sb, idx_gI (by omega), sb, iNeed, sb]
   have hR : R a0.fCode i (gI out i) := by
    rcases hv.part.val i hi with h | ⟨_, h⟩
    ·omega
    ·exact h
   have hwl : w.length < 100000000 := by omega
   have last : ∀ out' work', Part a0.fCode out' → Ext out out' → (∀ j, 0 ≤ gI out' j → 0 ≤ gI out j ∨ (j : Int) ∈ work') → (∀ y, y ∈ w → y ∈ work') → (∀ y, y ∈ work' → y ∈ w ∨ ∃ j : Nat, y = (j : Int) ∧ j < a0.fCode.length ∧ 0 ≤ gI out' j) →
     2 * neg out' + work'.length ≤ 2 * neg out + w.length → Done a0.fCode out' i hi → ∃ o, m_i_HeightsOf_L4 a0 out' work' = some o ∧ HEnds a0.fCode o := by
    intro out' work' q1 q2 q3 q4 q5 q6 q7
    refine ih out' work' (by omega) (by omega) ⟨q1, fun y hy => ?_, fun j hj h => ?_⟩
    ·rcases q5 y hy with h | h
     ·obtain ⟨j, r1, r2, r3⟩ := hv.ok y (by simp [h])
      exact ⟨j, r1, r2, by rw [q2.2 j r3]; exact r3⟩
     ·exact h
    ·rcases q3 j h with h1 | h1
     ·rcases hv.done j hj h1 with h2 | h2
      ·simp only [List.mem_append, List.mem_singleton] at h2
       rcases h2 with h2 | h2
       ·exact .inl (q4 _ h2)
       ·have : j = i := by omega
        subst this
        exact .inr q7
      ·exact .inr (h2.ext _ h1 q2)
     ·exact .inl h1
   by_cases hneed : need a0.fCode[i] > gI out i
   ·rw [if_pos hneed]
    exact ⟨_, rfl, .inl ⟨rfl, fun hg => by obtain ⟨_, _, _, h⟩ := hg.1 _ _ hR; omega⟩⟩
   rw [if_neg hneed, iFin, sb]
   have h5 : gI out i ≤ 500 := hv.part.le i hi
   cases hf : fin (a0.fCode[i]).fOp
   ·rw [if_neg (by simp), iChg, sb, w_succ (by omega)]
    rcases iGave hv.part (.next hR hi hf) (by omega) (work := w) with ⟨e, hb⟩ | ⟨out1, work1, e, g1⟩
    ·rw [e, sb]
     exact ⟨_, rfl, .inl ⟨rfl, hb⟩⟩
    ·rw [e, sb]
     dsimp only
     rw [if_pos rfl, iTgt, sb]
     have d1 := g1.ext.2 i hg
     cases ht : tgt (a0.fCode[i]).fOp
     ·rw [if_neg (by simp)]
      refine last out1 work1 g1.part g1.ext g1.new g1.sub (fun y hy => (g1.mem y hy).imp id (fun e => ⟨_, e, g1.lt, by rw [g1.at_]; exact g1.lo⟩)) g1.mu ⟨by rw [d1]; omega, by rw [d1]; exact h5, fun _ => ⟨g1.lt, by rw [g1.at_]; exact g1.lo, by rw [g1.at_, d1]⟩, fun h => by rw [ht] at h; cases h⟩
     ·rw [if_pos rfl, iTch, sb]
      have ea : (a0.fCode[i]).fA = (((a0.fCode[i]).fA.toNat : Nat) : Int) := by have := hA i hi ht; omega
      rcases iGave g1.part (.jump hR hi ht) (by have := g1.mu; have := neg_le out; omega) (work := work1) with ⟨e, hb⟩ | ⟨out2, work2, e, g2⟩
      ·rw [← ea] at e
       rw [e, sb]
       exact ⟨_, rfl, .inl ⟨rfl, hb⟩⟩
      ·rw [← ea] at e
       rw [e, sb]
       dsimp only
       rw [if_pos rfl]
       have d2 := g2.ext.2 i (by rw [d1]; exact hg)
       have m1 := g1.mu
       have m2 := g2.mu
       refine last out2 work2 g2.part (g1.ext.trans g2.ext) (fun j hj => ?_) (fun y hy => g2.sub _ (g1.sub _ hy)) (fun y hy => ?_) (by omega) ⟨by rw [d2, d1]; omega, by rw [d2, d1]; exact h5, fun _ => ⟨g1.lt, ?_, ?_⟩, fun _ => ⟨g2.lt, by rw [g2.at_]; exact g2.lo, by rw [g2.at_, d2, d1]⟩⟩
       ·rcases g2.new j hj with h | h
        ·rcases g1.new j h with h | h
         ·exact .inl h
         ·exact .inr (g2.sub _ h)
        ·exact .inr h
       ·rcases g2.mem y hy with h | h
        ·rcases g1.mem y h with h | h
         ·exact .inl h
         ·refine .inr ⟨_, h, g1.lt, ?_⟩
          rw [g2.ext.2 _ (by rw [g1.at_]; exact g1.lo), g1.at_]; exact g1.lo
        ·exact .inr ⟨_, h, g2.lt, by rw [g2.at_]; exact g2.lo⟩
       ·rw [g2.ext.2 _ (by rw [g1.at_]; exact g1.lo), g1.at_]; exact g1.lo
       ·rw [g2.ext.2 _ (by rw [g1.at_]; exact g1.lo), g1.at_, d2, d1]
   ·rw [if_pos rfl, iTgt, sb]
    cases ht : tgt (a0.fCode[i]).fOp
    ·rw [if_neg (by simp)]
     exact last out w hv.part (Ext.refl _) (fun j h => .inl h) (fun y hy => hy) (fun y hy => .inl hy) (Nat.le_refl _) ⟨by omega, h5, (fun h => by rw [hf] at h; cases h), (fun h => by rw [ht] at h; cases h)⟩
    ·rw [if_pos rfl, iTch, sb]
     have ea : (a0.fCode[i]).fA = (((a0.fCode[i]).fA.toNat : Nat) : Int) := by have := hA i hi ht; omega
     rcases iGave hv.part (.jump hR hi ht) (by omega) (work := w) with ⟨e, hb⟩ | ⟨out2, work2, e, g2⟩
     ·rw [← ea] at e
      rw [e, sb]
      exact ⟨_, rfl, .inl ⟨rfl, hb⟩⟩
     ·rw [← ea] at e
      rw [e, sb]
      dsimp only
      rw [if_pos rfl]
      have d2 := g2.ext.2 i hg
      exact last out2 work2 g2.part g2.ext g2.new g2.sub (fun y hy => (g2.mem y hy).imp id (fun e => ⟨_, e, g2.lt, by rw [g2.at_]; exact g2.lo⟩)) g2.mu ⟨by rw [d2]; omega, by rw [d2]; exact h5, (fun h => by rw [hf] at h; cases h), fun _ => ⟨g2.lt, by rw [g2.at_]; exact g2.lo, by rw [g2.at_, d2]⟩⟩
  ·rw [if_neg (by omega)]
   have hw : work = [] := List.eq_nil_of_length_eq_zero (by omega)
   subst hw
   exact ⟨_, rfl, .inr ⟨out, rfl, hv.part, fun i hi h => (hv.done i hi h).resolve_left (by simp)⟩⟩
end Go.Am
