/- The plain law, fifth part: the reference's sweeps give the heights. -/
import Derived.Test.YtnehfdofoemnfaaP4
set_option linter.unusedVariables false
set_option linter.unusedSimpArgs false
namespace Go.Am
open Go Go.RowKit Go.Proofs
structure SGave (code : List TIns) (out : List Int) (E : List Int → Prop) (l : List Int) (f ok : Bool) : Prop where
 bad : ok = false → l = out ∧ ¬ AllGood code
 part : Part code l
 ext : Ext out l
 edge : ok = true → E l
 fresh : f = true → neg l + 1 = neg out
 old : f = false → l = out
theorem SGave.none {code : List TIns} {out : List Int} {E : List Int → Prop} (hp : Part code out) (hE : E out) : SGave code out E out false true :=
 ⟨fun h => (by cases h), hp, Ext.refl _, fun _ => hE, (fun h => by cases h), fun _ => rfl⟩
theorem sGave {code : List TIns} {out : List Int} {a : Nat} {b : Int} (hp : Part code out) (hr : R code a b) :
  ∃ l f ok, m_s_l27Give out (a : Int) b = some (f, ok, l) ∧ SGave code out (fun l => a < code.length ∧ 0 ≤ gI l a ∧ gI l a = b) l f ok := by
 rw [sGive a b]
 by_cases h : Refused out a b
 ·rw [if_pos h]
  exact ⟨_, _, _, rfl, fun _ => ⟨rfl, refused_bad code hp hr h⟩, hp, Ext.refl _, (fun h => by cases h), (fun h => by cases h), fun _ => rfl⟩
 ·obtain ⟨h1, h2, h3, h4, h5, h6, h7, h8, h9⟩ := given code hp hr h
  rw [if_neg h]
  exact ⟨_, _, _, rfl, (fun h => by cases h), h4, h5, fun _ => ⟨h1, by rw [h6]; exact h2, h6⟩, fun hf => h8 (by simpa using hf), fun hf => h9 (by simpa using hf)⟩
theorem ex_bind {α β : Type} {x : Option α} {v : α} {K : α → Option β} {P : β → Prop} (h : x = some v) (hk : ∃ o, K v = some o ∧ P o) : ∃ o, (x >>= K) = some o ∧ P o := by
 subst h; exact hk
def SEnds (code : List TIns) (y : Nat) (out : List Int) (more : Bool) (o : (List Int × Bool) ⊕ ((List Int) ⊕ (List Int × Bool))) : Prop :=
 (o = .inr (.inr ([], false)) ∧ ¬ AllGood code) ∨ ∃ out' more', o = .inl (out', more') ∧ Part code out' ∧ neg out' ≤ neg out ∧ (more' = true → more = true ∨ neg out' < neg out) ∧
  (more' = false → more = false ∧ out' = out ∧ ∀ j (hj : j < code.length), y ≤ j → 0 ≤ gI out j → Done code out j hj)
theorem sSweep (a0 : TFunc) (hn : a0.fCode.length ≤ 2000000) (hA : ∀ i (hi : i < a0.fCode.length), tgt (a0.fCode[i]).fOp = true → 0 ≤ (a0.fCode[i]).fA) :
  ∀ (f y : Nat) (out : List Int) (more : Bool), a0.fCode.length ≤ y + f → Part a0.fCode out → ∃ o, m_s_HeightsOf_L10 a0 out more (y : Int) = some o ∧ SEnds a0.fCode y out more o := by
 intro f
 induction f with
 | zero =>
  intro y out more hy hp
  have hlen := hp.len
  rw [m_s_HeightsOf_L10, if_neg (by omega)]
  exact ⟨_, rfl, .inr ⟨out, more, rfl, hp, Nat.le_refl _, .inl, fun h => ⟨h, rfl, fun j hj h1 => absurd hj (by omega)⟩⟩⟩
 | succ f ih =>
  intro y out more hy hp
  have hlen := hp.len
  rw [m_s_HeightsOf_L10]
  by_cases hc : y < a0.fCode.length
  ·rw [if_pos (by omega), idx_nat hc, sb, idx_gI (by omega), sb]
   by_cases h0 : gI out y < 0
   ·rw [if_pos h0, w_succ (by omega)]
    obtain ⟨o, e, h⟩ := ih (y + 1) out more (by omega) hp
    refine ⟨o, e, ?_⟩
    rcases h with h | ⟨out', more', e, h1, h2, h3, h4⟩
    ·exact .inl h
    ·refine .inr ⟨out', more', e, h1, h2, h3, fun hm => ?_⟩
     obtain ⟨q1, q2, q3⟩ := h4 hm
     refine ⟨q1, q2, fun j hj h5 h6 => ?_⟩
     rcases Nat.eq_or_lt_of_le h5 with rfl | h7
     ·omega
     ·exact q3 j hj h7 h6
   ·rw [if_neg h0, sb, sNeed, sb]
    have hR : R a0.fCode y (gI out y) := by
     rcases hp.val y hc with h | ⟨_, h⟩
     ·omega
     ·exact h
    by_cases hneed : need a0.fCode[y] > gI out y
    ·rw [if_pos hneed]
     exact ⟨_, rfl, .inl ⟨rfl, fun hg => by obtain ⟨_, _, _, h⟩ := hg.1 _ _ hR; omega⟩⟩
    rw [if_neg hneed]
    have b1 : ∃ l1 f1 ok1, (m_s_IsFinal (a0.fCode[y]).fOp >>= fun v57 =>
      (if v57 = true then some (out, false, true) else
       (some (gI out y) : Option Int) >>= fun x60 =>
       m_s_InsChange a0.fCode[y] >>= fun v62 =>
       m_s_l27Give out (W64 ((y : Int) + 1)) (W64 (x60 + v62)) >>= fun (v64, v65, v66) =>
       some (v66, v64, v65)) : Option ((List Int) × Bool × Bool)) = some (l1, f1, ok1) ∧
      SGave a0.fCode out (fun l => fin (a0.fCode[y]).fOp = false → y + 1 < a0.fCode.length ∧ 0 ≤ gI l (y + 1) ∧ gI l (y + 1) = W64 (gI out y + chg a0.fCode[y])) l1 f1 ok1 := by
     rw [sFin, sb]
     cases hf : fin (a0.fCode[y]).fOp
     ·rw [if_neg (by simp), sb, sChg, sb, w_succ (by omega)]
      obtain ⟨l, f1, ok, e, g⟩ := sGave hp (.next hR hc hf)
      rw [e, sb]
      exact ⟨_, _, _, rfl, g.bad, g.part, g.ext, fun h _ => g.edge h, g.fresh, g.old⟩
     ·rw [if_pos rfl]
      exact ⟨_, _, _, rfl, .none hp (fun h => by cases h)⟩
    obtain ⟨l1, f1, ok1, e1, g1⟩ := b1
    have d1 : gI l1 y = gI out y := g1.ext.2 y (by omega)
    have b2 : ∃ l2 f2 ok2, (m_s_HasTarget (a0.fCode[y]).fOp >>= fun v76 =>
      (if v76 = true then
       idx l1 (y : Int) >>= fun x79 =>
       m_s_TargetChange (a0.fCode[y]).fOp >>= fun v81 =>
       m_s_l27Give l1 (a0.fCode[y]).fA (W64 (x79 + v81)) >>= fun (v83, v84, v85) =>
       some (v85, v83, v84)
      else some (l1, false, true)) : Option ((List Int) × Bool × Bool)) = some (l2, f2, ok2) ∧
      SGave a0.fCode l1 (fun l => tgt (a0.fCode[y]).fOp = true → (a0.fCode[y]).fA.toNat < a0.fCode.length ∧ 0 ≤ gI l (a0.fCode[y]).fA.toNat ∧ gI l (a0.fCode[y]).fA.toNat = W64 (gI out y + tch (a0.fCode[y]).fOp)) l2 f2 ok2 := by
     rw [sTgt, sb]
     cases ht : tgt (a0.fCode[y]).fOp
     ·rw [if_neg (by simp)]
      exact ⟨_, _, _, rfl, .none g1.part (fun h => by cases h)⟩
     ·have ea : (a0.fCode[y]).fA = (((a0.fCode[y]).fA.toNat : Nat) : Int) := by have := hA y hc ht; omega
      have hl1 := g1.part.len
      rw [if_pos rfl, idx_gI (by omega), sb, sTch, sb, d1]
      obtain ⟨l, f2, ok, e, g⟩ := sGave g1.part (.jump hR hc ht)
      rw [← ea] at e
      rw [e, sb]
      exact ⟨_, _, _, rfl, g.bad, g.part, g.ext, fun h _ => g.edge h, g.fresh, g.old⟩
    obtain ⟨l2, f2, ok2, e2, g2⟩ := b2
    refine ex_bind e1 ?_
    refine ex_bind e2 ?_
    dsimp only
    cases hok1 : ok1
    ·rw [if_neg (by simp)]
     exact ⟨_, rfl, .inl ⟨rfl, (g1.bad hok1).2⟩⟩
    rw [if_pos rfl]
    cases hok2 : ok2
    ·rw [if_neg (by simp)]
     exact ⟨_, rfl, .inl ⟨rfl, (g2.bad hok2).2⟩⟩
    rw [if_pos rfl, w_succ (by omega)]
    have n1 : neg l1 ≤ neg out := by
     cases hf1 : f1
     ·rw [g1.old hf1]; exact Nat.le_refl _
     ·have := g1.fresh hf1; omega
    have n2 : neg l2 ≤ neg l1 := by
     cases hf2 : f2
     ·rw [g2.old hf2]; exact Nat.le_refl _
     ·have := g2.fresh hf2; omega
    have fin2 : ∀ m2 : Bool, m2 = (if more = true then true else if f1 = true then true else f2) → ∃ o, m_s_HeightsOf_L10 a0 l2 m2 ((y + 1 : Nat) : Int) = some o ∧ SEnds a0.fCode y out more o := by
     intro m2 hm2
     obtain ⟨o, e, h⟩ := ih (y + 1) l2 m2 (by omega) g2.part
     refine ⟨o, e, ?_⟩
     rcases h with h | ⟨out', more', e, h1, h2, h3, h4⟩
     ·exact .inl h
     ·refine .inr ⟨out', more', e, h1, by omega, fun hm => ?_, fun hm => ?_⟩
      ·rcases h3 hm with h5 | h5
       ·rw [h5] at hm2
        cases hmo : more
        ·right
         rw [hmo, if_neg (by simp)] at hm2
         cases hf1 : f1
         ·rw [hf1, if_neg (by simp)] at hm2
          have := g2.fresh hm2.symm
          omega
         ·have := g1.fresh hf1
          omega
        ·exact .inl rfl
       ·exact .inr (by omega)
      ·obtain ⟨q1, q2, q3⟩ := h4 hm
       rw [q1] at hm2
       cases hmo : more
       case true => rw [hmo, if_pos rfl] at hm2; cases hm2
       rw [hmo, if_neg (by simp)] at hm2
       cases hf1 : f1
       case true => rw [hf1, if_pos rfl] at hm2; cases hm2
       rw [hf1, if_neg (by simp)] at hm2
       have r2 := g2.old hm2.symm
       have r1 := g1.old hf1
       have E1 := g1.edge hok1
       have E2 := g2.edge hok2
       rw [r2] at E2 q2 q3
       rw [r1] at E1 E2 q2 q3
       refine ⟨rfl, q2, fun j hj h5 h6 => ?_⟩
       rcases Nat.eq_or_lt_of_le h5 with rfl | h7
       ·exact ⟨by omega, hp.le _ hj, E1, E2⟩
       ·exact q3 j hj h7 h6
    cases hmo : more
    ·rw [if_neg (by simp)]
     cases hf1 : f1
     ·rw [if_neg (by simp)]
      rw [← hmo]
      exact fin2 f2 (by rw [hmo, if_neg (by simp), hf1, if_neg (by simp)])
     ·rw [if_pos rfl]
      rw [← hmo]
      exact fin2 true (by rw [hmo, if_neg (by simp), hf1, if_pos rfl])
    ·rw [if_pos rfl]
     have k := fin2 true (by rw [hmo, if_pos rfl])
     rw [hmo] at k
     exact k
  ·rw [if_neg (by omega)]
   exact ⟨_, rfl, .inr ⟨out, more, rfl, hp, Nat.le_refl _, .inl, fun h => ⟨h, rfl, fun j hj h1 => absurd hj (by omega)⟩⟩⟩
theorem sLoop (a0 : TFunc) (hn : a0.fCode.length ≤ 2000000) (hA : ∀ i (hi : i < a0.fCode.length), tgt (a0.fCode[i]).fOp = true → 0 ≤ (a0.fCode[i]).fA) :
  ∀ (M : Nat) (out : List Int), neg out ≤ M → Part a0.fCode out → ∃ o, m_s_HeightsOf_L9 a0 out true = some o ∧ HEnds a0.fCode o := by
 intro M
 induction M with
 | zero =>
  intro out hm hp
  rw [m_s_HeightsOf_L9, if_pos rfl]
  obtain ⟨o, e, h⟩ := sSweep a0 hn hA a0.fCode.length 0 out false (by omega) hp
  rw [show ((0 : Nat) : Int) = 0 from rfl] at e
  rw [e, sb]
  rcases h with ⟨rfl, h⟩ | ⟨out', more', rfl, h1, h2, h3, h4⟩
  ·exact ⟨_, rfl, .inl ⟨rfl, h⟩⟩
  ·dsimp only
   cases hm' : more'
   ·obtain ⟨_, q2, q3⟩ := h4 hm'
    rw [m_s_HeightsOf_L9, if_neg (by simp)]
    subst q2
    exact ⟨_, rfl, .inr ⟨_, rfl, h1, fun i hi h => q3 i hi (Nat.zero_le _) h⟩⟩
   ·rcases h3 hm' with h | h
    ·cases h
    ·omega
 | succ M ih =>
  intro out hm hp
  rw [m_s_HeightsOf_L9, if_pos rfl]
  obtain ⟨o, e, h⟩ := sSweep a0 hn hA a0.fCode.length 0 out false (by omega) hp
  rw [show ((0 : Nat) : Int) = 0 from rfl] at e
  rw [e, sb]
  rcases h with ⟨rfl, h⟩ | ⟨out', more', rfl, h1, h2, h3, h4⟩
  ·exact ⟨_, rfl, .inl ⟨rfl, h⟩⟩
  ·dsimp only
   cases hm' : more'
   ·obtain ⟨_, q2, q3⟩ := h4 hm'
    rw [m_s_HeightsOf_L9, if_neg (by simp)]
    subst q2
    exact ⟨_, rfl, .inr ⟨_, rfl, h1, fun i hi h => q3 i hi (Nat.zero_le _) h⟩⟩
   ·rcases h3 hm' with h | h
    ·cases h
    ·exact ih out' (by omega) h1
end Go.Am
