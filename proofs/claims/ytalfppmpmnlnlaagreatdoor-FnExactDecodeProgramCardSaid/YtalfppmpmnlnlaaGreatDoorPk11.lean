/- Texts of the proof, joined and shortened. -/
import Derived.Test.YtalfppmpmnlnlaaGreatDoorPk10
set_option linter.unusedVariables false
set_option linter.unusedSimpArgs false
namespace Go.Am
open Go Go.RowKit Go.Proofs
structure HQ (code : List aL) (out : List Int) (E : List Int → Prop) (l : List Int) (f ok : Bool) : Prop where
 bad : ok = false → l = out ∧ ¬ uX code
 part : Part code l
 ext : Ext out l
 RT : ok = true → E l
 fresh : f = true → neg l + 1 = neg out
 CQ : f = false → l = out
theorem HQ.none {code : List aL} {out : List Int} {E : List Int → Prop} (hp : Part code out) (hE : E out) : HQ code out E out false true :=
 ⟨fun h => (by cases h), hp, Ext.refl _, fun _ => hE, (fun h => by cases h), fun _ => rfl⟩
theorem To {code : List aL} {out : List Int} {a : Nat} {b : Int} (hp : Part code out) (hr : R code a b) :
  ∃ l f ok, fW out (a : Int) b = some (f, ok, l) ∧ HQ code out (fun l => a < code.length ∧ 0 ≤ gI l a ∧ gI l a = b) l f ok := by
 rw [Yt a b]
 by_cases h : iv out a b
 ·rw [if_pos h]
  exact ⟨_, _, _, rfl, fun _ => ⟨rfl, zH code hp hr h⟩, hp, Ext.refl _, (fun h => by cases h), (fun h => by cases h), fun _ => rfl⟩
 ·obtain ⟨h1, h2, h3, h4, h5, h6, h7, h8, h9⟩ := given code hp hr h
  rw [if_neg h]
  exact ⟨_, _, _, rfl, (fun h => by cases h), h4, h5, fun _ => ⟨h1, by rw [h6]; exact h2, h6⟩, fun hf => h8 (by simpa using hf), fun hf => h9 (by simpa using hf)⟩
theorem KS {α β : Type} {x : Option α} {v : α} {K : α → Option β} {P : β → Prop} (h : x = some v) (hk : ∃ o, K v = some o ∧ P o) : ∃ o, (x >>= K) = some o ∧ P o := by
 subst h; exact hk
def Tp (code : List aL) (y : Nat) (out : List Int) (more : Bool) (o : (List Int × Bool) ⊕ ((List Int) ⊕ (List Int × Bool))) : Prop :=
 (o = .inr (.inr ([], false)) ∧ ¬ uX code) ∨ ∃ iU uL, o = .inl (iU, uL) ∧ Part code iU ∧ neg iU ≤ neg out ∧ (uL = true → more = true ∨ neg iU < neg out) ∧
  (uL = false → more = false ∧ iU = out ∧ ∀ j (hj : j < code.length), y ≤ j → 0 ≤ gI out j → GV code out j hj)
theorem PH (a0 : aC) (hn : a0.ax.length ≤ 2000000) (hA : ∀ i (hi : i < a0.ax.length), DF (a0.ax[i]).a8 = true → 0 ≤ (a0.ax[i]).fA) :
  ∀ (f y : Nat) (out : List Int) (more : Bool), a0.ax.length ≤ y + f → Part a0.ax out → ∃ o, cV a0 out more (y : Int) = some o ∧ Tp a0.ax y out more o := by
 intro f
 induction f with
 | zero =>
  intro y out more hy hp
  have hlen := hp.len
  rw [cV, if_neg ahw]
  exact ⟨_, rfl, .inr ⟨out, more, rfl, hp, adV _, .inl, fun h => ⟨h, rfl, fun j hj h1 => absurd hj ahw⟩⟩⟩
 | succ f ih =>
  intro y out more hy hp
  have hlen := hp.len
  rw [cV]
  by_cases hc : y < a0.ax.length
  ·rw [if_pos ahw, cC hc, sb, sC ahw, sb]
   by_cases h0 : gI out y < 0
   ·rw [if_pos h0, ba ahw]
    obtain ⟨o, e, h⟩ := ih (y + 1) out more ahw hp
    refine ⟨o, e, ?_⟩
    rcases h with h | ⟨iU, uL, e, h1, h2, h3, h4⟩
    ·exact .inl h
    ·refine .inr ⟨iU, uL, e, h1, h2, h3, fun hm => ?_⟩
     obtain ⟨q1, q2, q3⟩ := h4 hm
     refine ⟨q1, q2, fun j hj h5 h6 => ?_⟩
     rcases afm h5 with rfl | h7
     ·omega
     ·exact q3 j hj h7 h6
   ·rw [if_neg h0, sb, Yr, sb]
    have hR : R a0.ax y (gI out y) := by
     rcases hp.val y hc with h | ⟨_, h⟩
     ·omega
     ·exact h
    by_cases hneed : IQ a0.ax[y] > gI out y
    ·rw [if_pos hneed]
     exact ⟨_, rfl, .inl ⟨rfl, fun hg => by obtain ⟨_, _, _, h⟩ := hg.1 _ _ hR; omega⟩⟩
    rw [if_neg hneed]
    have b1 : ∃ l1 f1 ok1, (kY (a0.ax[y]).a8 >>= fun rF =>
      (if rF = true then some (out, false, true) else
       (some (gI out y) : Option Int) >>= fun x60 =>
       jf a0.ax[y] >>= fun Ze =>
       fW out (ai ((y : Int) + 1)) (ai (x60 + Ze)) >>= fun (vI, CN, su) =>
       some (su, vI, CN)) : Option ((List Int) × Bool × Bool)) = some (l1, f1, ok1) ∧
      HQ a0.ax out (fun l => fin (a0.ax[y]).a8 = false → y + 1 < a0.ax.length ∧ 0 ≤ gI l (y + 1) ∧ gI l (y + 1) = ai (gI out y + Xd a0.ax[y])) l1 f1 ok1 := by
     rw [abM, sb]
     cases hf : fin (a0.ax[y]).a8
     ·rw [if_neg ahy, sb, abO, sb, ba ahw]
      obtain ⟨l, f1, ok, e, g⟩ := To hp (.next hR hc hf)
      rw [e, sb]
      exact ⟨_, _, _, rfl, g.bad, g.part, g.ext, fun h _ => g.RT h, g.fresh, g.CQ⟩
     ·rw [if_pos rfl]
      exact ⟨_, _, _, rfl, .none hp (fun h => by cases h)⟩
    obtain ⟨l1, f1, ok1, e1, g1⟩ := b1
    have d1 : gI l1 y = gI out y := g1.ext.2 y ahw
    have b2 : ∃ l2 f2 ok2, (eO (a0.ax[y]).a8 >>= fun v76 =>
      (if v76 = true then
       idx l1 (y : Int) >>= fun x79 =>
       fF (a0.ax[y]).a8 >>= fun Nj =>
       fW l1 (a0.ax[y]).fA (ai (x79 + Nj)) >>= fun (Bi, G2, v85) =>
       some (v85, Bi, G2)
      else some (l1, false, true)) : Option ((List Int) × Bool × Bool)) = some (l2, f2, ok2) ∧
      HQ a0.ax l1 (fun l => DF (a0.ax[y]).a8 = true → (a0.ax[y]).fA.toNat < a0.ax.length ∧ 0 ≤ gI l (a0.ax[y]).fA.toNat ∧ gI l (a0.ax[y]).fA.toNat = ai (gI out y + Xc (a0.ax[y]).a8)) l2 f2 ok2 := by
     rw [Yq, sb]
     cases ht : DF (a0.ax[y]).a8
     ·rw [if_neg ahy]
      exact ⟨_, _, _, rfl, .none g1.part (fun h => by cases h)⟩
     ·have ea : (a0.ax[y]).fA = (((a0.ax[y]).fA.toNat : Nat) : Int) := by have := hA y hc ht; omega
      have C8 := g1.part.len
      rw [if_pos rfl, sC ahw, sb, abN, sb, d1]
      obtain ⟨l, f2, ok, e, g⟩ := To g1.part (.jump hR hc ht)
      rw [← ea] at e
      rw [e, sb]
      exact ⟨_, _, _, rfl, g.bad, g.part, g.ext, fun h _ => g.RT h, g.fresh, g.CQ⟩
    obtain ⟨l2, f2, ok2, e2, g2⟩ := b2
    refine KS e1 ?_
    refine KS e2 ?_
    dsimp only
    cases aaH : ok1
    ·rw [if_neg ahy]
     exact ⟨_, rfl, .inl ⟨rfl, (g1.bad aaH).2⟩⟩
    rw [if_pos rfl]
    cases aaI : ok2
    ·rw [if_neg ahy]
     exact ⟨_, rfl, .inl ⟨rfl, (g2.bad aaI).2⟩⟩
    rw [if_pos rfl, ba ahw]
    have n1 : neg l1 ≤ neg out := by
     cases za : f1
     ·rw [g1.CQ za]; exact adV _
     ·have := g1.fresh za; omega
    have n2 : neg l2 ≤ neg l1 := by
     cases KN : f2
     ·rw [g2.CQ KN]; exact adV _
     ·have := g2.fresh KN; omega
    have Ll : ∀ m2 : Bool, m2 = (if more = true then true else if f1 = true then true else f2) → ∃ o, cV a0 l2 m2 ((y + 1 : Nat) : Int) = some o ∧ Tp a0.ax y out more o := by
     intro m2 Jc
     obtain ⟨o, e, h⟩ := ih (y + 1) l2 m2 ahw g2.part
     refine ⟨o, e, ?_⟩
     rcases h with h | ⟨iU, uL, e, h1, h2, h3, h4⟩
     ·exact .inl h
     ·refine .inr ⟨iU, uL, e, h1, by omega, fun hm => ?_, fun hm => ?_⟩
      ·rcases h3 hm with h5 | h5
       ·rw [h5] at Jc
        cases hmo : more
        ·right
         rw [hmo, if_neg ahy] at Jc
         cases za : f1
         ·rw [za, if_neg ahy] at Jc
          have := g2.fresh Jc.symm
          omega
         ·have := g1.fresh za
          omega
        ·exact .inl rfl
       ·exact .inr ahw
      ·obtain ⟨q1, q2, q3⟩ := h4 hm
       rw [q1] at Jc
       cases hmo : more
       case true => rw [hmo, if_pos rfl] at Jc; cases Jc
       rw [hmo, if_neg ahy] at Jc
       cases za : f1
       case true => rw [za, if_pos rfl] at Jc; cases Jc
       rw [za, if_neg ahy] at Jc
       have r2 := g2.CQ Jc.symm
       have r1 := g1.CQ za
       have E1 := g1.RT aaH
       have E2 := g2.RT aaI
       rw [r2] at E2 q2 q3
       rw [r1] at E1 E2 q2 q3
       refine ⟨rfl, q2, fun j hj h5 h6 => ?_⟩
       rcases afm h5 with rfl | h7
       ·exact ⟨by omega, hp.le _ hj, E1, E2⟩
       ·exact q3 j hj h7 h6
    cases hmo : more
    ·rw [if_neg ahy]
     cases za : f1
     ·rw [if_neg ahy]
      rw [← hmo]
      exact Ll f2 (by rw [hmo, if_neg ahy, za, if_neg ahy])
     ·rw [if_pos rfl]
      rw [← hmo]
      exact Ll true (by rw [hmo, if_neg ahy, za, if_pos rfl])
    ·rw [if_pos rfl]
     have k := Ll true (by rw [hmo, if_pos rfl])
     rw [hmo] at k
     exact k
  ·rw [if_neg ahw]
   exact ⟨_, rfl, .inr ⟨out, more, rfl, hp, adV _, .inl, fun h => ⟨h, rfl, fun j hj h1 => absurd hj ahw⟩⟩⟩
theorem aaJ (a0 : aC) (hn : a0.ax.length ≤ 2000000) (hA : ∀ i (hi : i < a0.ax.length), DF (a0.ax[i]).a8 = true → 0 ≤ (a0.ax[i]).fA) :
  ∀ (M : Nat) (out : List Int), neg out ≤ M → Part a0.ax out → ∃ o, dM a0 out true = some o ∧ NP a0.ax o := by
 intro M
 induction M with
 | zero =>
  intro out hm hp
  rw [dM, if_pos rfl]
  obtain ⟨o, e, h⟩ := PH a0 hn hA a0.ax.length 0 out false ahw hp
  rw [show ((0 : Nat) : Int) = 0 from rfl] at e
  rw [e, sb]
  rcases h with ⟨rfl, h⟩ | ⟨iU, uL, rfl, h1, h2, h3, h4⟩
  ·exact ahr
  ·dsimp only
   cases Hk : uL
   ·obtain ⟨_, q2, q3⟩ := h4 Hk
    rw [dM, if_neg ahy]
    subst q2
    exact ⟨_, rfl, .inr ⟨_, rfl, h1, fun i hi h => q3 i hi (aeo _) h⟩⟩
   ·rcases h3 Hk with h | h
    ·cases h
    ·omega
 | succ M ih =>
  intro out hm hp
  rw [dM, if_pos rfl]
  obtain ⟨o, e, h⟩ := PH a0 hn hA a0.ax.length 0 out false ahw hp
  rw [show ((0 : Nat) : Int) = 0 from rfl] at e
  rw [e, sb]
  rcases h with ⟨rfl, h⟩ | ⟨iU, uL, rfl, h1, h2, h3, h4⟩
  ·exact ahr
  ·dsimp only
   cases Hk : uL
   ·obtain ⟨_, q2, q3⟩ := h4 Hk
    rw [dM, if_neg ahy]
    subst q2
    exact ⟨_, rfl, .inr ⟨_, rfl, h1, fun i hi h => q3 i hi (aeo _) h⟩⟩
   ·rcases h3 Hk with h | h
    ·cases h
    ·exact ih iU ahw h1
def Dt (x : aL) (a b : Int) : Bool := (km x a b).getD false
theorem aaK (x : aL) (a b : Int) : km x a b = some (Dt x a b) := by obtain ⟨v, h, _⟩ := GU x a b; rw [Dt, h]; rfl
theorem adJ (x : aL) (a b : Int) : nF x a b = some (Dt x a b) := by obtain ⟨v, h, h2⟩ := GU x a b; rw [Dt, h, h2]; rfl
theorem L0 {n : Int} (h : DF n = true) : n = 27 ∨ n = 28 ∨ n = 29 ∨ n = 44 ∨ n = 45 ∨ n = 49 ∨ n = 52 := by
 unfold DF cU at h
 by_cases h1 : n = 27
 ·exact .inl h1
 by_cases h2 : n = 28
 ·exact .inr (.inl h2)
 by_cases h3 : n = 29
 ·exact .inr (.inr (.inl h3))
 by_cases h4 : n = 44
 ·exact .inr (.inr (.inr (.inl h4)))
 by_cases h5 : n = 45
 ·exact .inr (.inr (.inr (.inr (.inl h5))))
 by_cases h6 : n = 49
 ·exact .inr (.inr (.inr (.inr (.inr (.inl h6)))))
 by_cases h7 : n = 52
 ·exact .inr (.inr (.inr (.inr (.inr (.inr h7)))))
 rw [if_neg h1, if_neg h2, if_neg h3, if_neg h4, if_neg h5, if_neg h6, if_neg h7] at h
 cases h
theorem RU {x : aL} {a b : Int} (h : Dt x a b = true) (ht : DF x.a8 = true) : 0 ≤ x.fA ∧ x.fA < b := by
 have h1 : km x a b = some true := by rw [aaK, h]
 unfold km at h1
 obtain ⟨v1, _, h1⟩ := bind_some h1
 by_cases hv : v1 = true
 ·rw [if_pos hv] at h1
  obtain ⟨v4, h4, h1⟩ := bind_some h1
  by_cases A6 : v4 = true
  ·subst A6
   obtain ⟨n, A, B, S, T⟩ := x
   have ht : DF n = true := ht
   show 0 ≤ A ∧ A < b
   rcases L0 ht with rfl | rfl | rfl | rfl | rfl | rfl | rfl <;>
    ·simp [mS, pL, cU, sb] at h4
     by_cases hA : 0 ≤ A
     ·rw [if_pos hA] at h4
      exact ⟨hA, by simpa using h4⟩
     ·rw [if_neg hA] at h4; cases h4
  ·rw [if_neg A6] at h1; cases h1
 ·rw [if_neg hv] at h1; cases h1
theorem PI {n i : Nat} (h : i < n) : gI (List.replicate n (-1)) i = -1 := by
 rw [DG ahT]; simp
theorem Tq (a0 : aC) (hn : a0.ax.length ≤ 2000000) : ∀ (f k : Nat) (l : List Int), a0.ax.length ≤ k + f → k ≤ a0.ax.length → l.length = a0.ax.length → (∀ j, j < k → gI l j = -1) →
  jB a0 l (k : Int) = some (if (a0.ax.drop k).all (fun x => Dt x (a0.ay.length : Int) (a0.ax.length : Int)) then .inl (List.replicate a0.ax.length (-1)) else .inr ([], false))
 | f, k, l, hf, hk, hl, hj => by
  rw [jB]
  by_cases hc : k < a0.ax.length
  ·rw [if_pos ahw, cC hc, sb, aaK, sb, aeg hc, afb]
   obtain ⟨g, rfl⟩ : ∃ g, f = g + 1 := ⟨f - 1, by omega⟩
   cases hb : Dt a0.ax[k] (a0.ay.length : Int) (a0.ax.length : Int)
   ·rw [if_neg ahy, afd, if_neg ahy]
   ·rw [if_pos rfl, sC ahw, sb, ba ahw, aeT]
    exact Tq a0 hn g (k + 1) _ ahw ahw (by rw [aeZ]; exact hl) (fun j h => by
     rw [ug]
     by_cases he : (k : Int).toNat = j ∧ (k : Int).toNat < l.length
     ·rw [if_pos he]
     ·rw [if_neg he]
      exact hj j (by simp at he; omega))
  ·rw [if_neg ahw, afA ahw]
   have : l = List.replicate a0.ax.length (-1) := afP (by simp [hl]) fun i h1 h2 => by
    rw [← DG h1, hj i ahw]; simp
   rw [this]; rfl
theorem Tr (a0 : aC) (hn : a0.ax.length ≤ 2000000) : ∀ (f k : Nat), a0.ax.length ≤ k + f → k ≤ a0.ax.length →
  jC a0 (List.replicate k (-1)) (k : Int) = some (if (a0.ax.drop k).all (fun x => Dt x (a0.ay.length : Int) (a0.ax.length : Int)) then .inl (List.replicate a0.ax.length (-1)) else .inr ([], false))
 | f, k, hf, hk => by
  rw [jC]
  by_cases hc : k < a0.ax.length
  ·rw [if_pos ahw, cC hc, sb, adJ, sb, aeg hc, afb]
   obtain ⟨g, rfl⟩ : ∃ g, f = g + 1 := ⟨f - 1, by omega⟩
   cases hb : Dt a0.ax[k] (a0.ay.length : Int) (a0.ax.length : Int)
   ·rw [if_neg ahy, afd, if_neg ahy]
   ·rw [if_pos rfl, kD ahC, sb, ba ahw, aeT]
    have e : List.replicate k (-1 : Int) ++ [-1] = List.replicate (k + 1) (-1) := by rw [List.replicate_succ']
    rw [e]
    exact Tr a0 hn g (k + 1) ahw ahw
  ·have : k = a0.ax.length := by omega
   rw [if_neg ahw, afA ahw, this]; rfl
theorem JS (code : List aL) (h0 : 0 < code.length) : Part code ((List.replicate code.length (-1)).set 0 0) := by
 have g : ∀ i, i < code.length → gI ((List.replicate code.length (-1)).set 0 0) i = if i = 0 then 0 else -1 := fun i hi => by
  rw [ug]
  by_cases h : i = 0
  ·subst h; rw [if_pos ⟨rfl, by simpa using h0⟩, if_pos rfl]
  ·rw [if_neg (fun q => h q.1.symm), if_neg h, PI hi]
 refine ⟨by simp, fun i hi => ?_, fun _ => by rw [g 0 h0]; rfl, fun i hi => ?_⟩
 ·rw [g i hi]
  by_cases h : i = 0
  ·subst h; rw [if_pos rfl]; exact .inr ⟨Int.le_refl _, .zero⟩
  ·rw [if_neg h]; exact .inl rfl
 ·rw [g i hi]
  by_cases h : i = 0
  ·rw [if_pos h]; omega
  ·rw [if_neg h]; omega
theorem heights (a0 : aC) (hn : a0.ax.length ≤ 2000000) : ∃ l b, jg a0 = some (l, b) ∧ kn a0 = some (l, b) ∧ (b = false → l = []) ∧
  (b = true → l.length = a0.ax.length ∧ ∀ i (hi : i < a0.ax.length), DF (a0.ax[i]).a8 = true → 0 ≤ (a0.ax[i]).fA ∧ (a0.ax[i]).fA < a0.ax.length) := by
 unfold jg kn
 have es := Tr a0 hn a0.ax.length 0 ahw ahw
 rw [show ((0 : Nat) : Int) = 0 from rfl, List.replicate_zero] at es
 rw [es]
 by_cases h0 : a0.ax.length = 0
 ·have hd : a0.ax = [] := aeN h0
  rw [if_pos ahw]
  refine ⟨_, _, rfl, ?_, fun _ => rfl, fun h => by cases h⟩
  rw [hd]; rfl
 ·rw [if_neg ahw]
  have em : (xc 8 (a0.ax.length : Int) (a0.ax.length : Int) : Option (List Int)) = some (List.replicate a0.ax.length default) := by
   unfold xc
   rw [if_pos ⟨by omega, by omega, by omega, by omega⟩]; rfl
  have ei := Tq a0 hn a0.ax.length 0 (List.replicate a0.ax.length default) ahw ahw ahy (fun j h => absurd h ahw)
  rw [show ((0 : Nat) : Int) = 0 from rfl] at ei
  rw [em, sb, ei, afp]
  cases mh : a0.ax.all (fun x => Dt x (a0.ay.length : Int) (a0.ax.length : Int))
  ·refine ⟨_, _, rfl, rfl, fun _ => rfl, fun h => by cases h⟩
  ·have hA : ∀ i (hi : i < a0.ax.length), DF (a0.ax[i]).a8 = true → 0 ≤ (a0.ax[i]).fA ∧ (a0.ax[i]).fA < a0.ax.length := fun i hi ht =>
    RU (aeb.1 mh _ (aee hi)) ht
   have hp := JS a0.ax ahw
   rw [if_pos rfl, sb, sb]
   dsimp only
   have hz : idx (List.replicate a0.ax.length (-1)) 0 = some (-1) := by
    have := cC (l := List.replicate a0.ax.length (-1 : Int)) (i := 0) ahC
    rw [show ((0 : Nat) : Int) = 0 from rfl] at this
    rw [this]; simp
   rw [hz, sb, sb, if_neg (by rw [List.length_replicate]; omega)]
   show ∃ l b, (cJ a0 ((List.replicate a0.ax.length (-1)).set 0 0) [0] >>= _) = _ ∧ _
   obtain ⟨o, e1, h1⟩ := Yv a0 hn (fun i hi ht => (hA i hi ht).1) 10000000 ((List.replicate a0.ax.length (-1)).set 0 0) [0] (by have := NM ((List.replicate a0.ax.length (-1)).set 0 0); simp at this ⊢; omega) ahw
    ⟨hp, fun x hx => ⟨0, by simpa using hx, by omega, by rw [hp.zero ahw]; exact Int.le_refl _⟩, fun i hi h => .inl (by
     rcases aeJ i with rfl | LC
     ·simp
     ·exfalso
      rw [ug, if_neg (fun q => by omega), PI hi] at h
      omega)⟩
   obtain ⟨o', e2, h2⟩ := aaJ a0 hn (fun i hi ht => (hA i hi ht).1) _ ((List.replicate a0.ax.length (-1)).set 0 0) (adV _) hp
   have Zq : dM a0 ((List.replicate a0.ax.length (-1)).set (0 : Int).toNat 0) true = some o' := e2
   rw [e1, sb, Zq, sb]
   rcases h1 with ⟨rfl, h1⟩ | ⟨out, rfl, p1, d1⟩
   ·rcases h2 with ⟨rfl, h2⟩ | ⟨iU, rfl, p2, d2⟩
    ·exact ⟨_, _, rfl, rfl, fun _ => rfl, fun h => by cases h⟩
    ·exact absurd (Fe a0.ax p2 d2 ahw).1 h1
   ·rcases h2 with ⟨rfl, h2⟩ | ⟨iU, rfl, p2, d2⟩
    ·exact absurd (Fe a0.ax p1 d1 ahw).1 h2
    ·have := Ys.uniq a0.ax (Fe a0.ax p1 d1 ahw).2 (Fe a0.ax p2 d2 ahw).2
     subst this
     exact ⟨_, _, rfl, rfl, (fun h => by cases h), fun _ => ⟨p1.len, hA⟩⟩
def iz (c : Nat → Bool) (k n : Nat) : Bool := (List.range' k (n - k)).all c
theorem oy {c : Nat → Bool} {k n : Nat} : iz c k n = true ↔ ∀ i, k ≤ i → i < n → c i = true := by
 unfold iz
 rw [aeb]
 constructor
 ·intro h i h1 h2
  exact h i (List.mem_range'_1.2 ⟨h1, by omega⟩)
 ·intro h i hi
  have := List.mem_range'_1.1 hi
  exact h i this.1 ahw
theorem CE {c : Nat → Bool} {n : Nat} : iz c n n = true := by unfold iz; simp
theorem zl {c : Nat → Bool} {k n : Nat} (h : k < n) : iz c k n = (c k && iz c (k + 1) n) := by
 unfold iz
 rw [show n - k = (n - (k + 1)) + 1 by omega, List.range'_succ, afb]
theorem CF {σ : Type} {L : σ → Int → Option (Unit ⊕ Bool)} (c : Nat → Bool) (n : Nat) (I : σ → Nat → Prop)
  (hs : ∀ s k, k < n → I s k → (c k = true → ∃ s', I s' (k + 1) ∧ L s (k : Int) = L s' ((k + 1 : Nat) : Int)) ∧ (c k = false → L s (k : Int) = some (.inr false)))
  (he : ∀ s, I s n → L s (n : Int) = some (.inl ())) : ∀ (f k : Nat) (s : σ), n ≤ k + f → k ≤ n → I s k → L s (k : Int) = some (if iz c k n = true then .inl () else .inr false)
 | f, k, s, hf, hk, hi => by
  by_cases hc : k < n
  ·obtain ⟨g, rfl⟩ : ∃ g, f = g + 1 := ⟨f - 1, by omega⟩
   obtain ⟨h1, h2⟩ := hs s k hc hi
   rw [zl hc]
   cases Lu : c k
   ·rw [h2 Lu, afd, if_neg ahy]
   ·obtain ⟨s', q1, q2⟩ := h1 Lu
    rw [q2, aeT]
    exact CF c n I hs he g (k + 1) s' ahw ahw q1
  ·have : k = n := by omega
   subst this
   rw [he s hi, if_pos CE]
theorem vq {L : Int → Option (Unit ⊕ Bool)} (c : Nat → Bool) (n : Nat)
  (hs : ∀ k, k < n → (c k = true → L (k : Int) = L ((k + 1 : Nat) : Int)) ∧ (c k = false → L (k : Int) = some (.inr false)))
  (he : L (n : Int) = some (.inl ())) : L 0 = some (if iz c 0 n = true then .inl () else .inr false) :=
 CF (σ := Unit) (L := fun _ => L) c n (fun _ _ => True) (fun s k hk _ => ⟨fun h => ⟨(), trivial, (hs k hk).1 h⟩, (hs k hk).2⟩) (fun _ _ => he) n 0 () ahw (aeo _) trivial
theorem yb {κ β : Type} [DecidableEq κ] (z v : β) (k k' : κ) : ∀ l : List (κ × β), rY (fX l k v) k' z = if k' = k then v else rY l k' z
 | [] => by
  unfold rY fX ir ir
  by_cases h : k' = k
  ·subst h; simp
  ·simp [h, ir]
 | (a, b) :: r => by
  have ih := yb z v k k' r
  unfold rY at ih ⊢
  unfold fX
  by_cases h : k = a
  ·subst h
   rw [if_pos rfl]
   by_cases h2 : k' = k
   ·subst h2; simp [ir]
   ·simp [ir, h2]
  ·rw [if_neg h]
   by_cases h2 : k' = a
   ·subst h2
    rw [if_neg (fun e => h e.symm)]
    simp [ir]
   ·simp only [ir, if_neg h2]
    exact ih
def gS (l : List aU) (i : Nat) : aU := l.getD i []
theorem FX {l : List aU} {i : Nat} (h : i < l.length) : idx l (i : Int) = some (gS l i) := by
 rw [cC h, gS, adY, Is h]; rfl
def gP (l : List TParam) (i : Nat) : TParam := l.getD i default
theorem JT {l : List TParam} {i : Nat} (h : i < l.length) : idx l (i : Int) = some (gP l i) := by
 rw [cC h, gP, adY, Is h]; rfl
def gC (l : List aL) (i : Nat) : aL := l.getD i default
theorem PJ {l : List aL} {i : Nat} (h : i < l.length) : idx l (i : Int) = some (gC l i) := by
 rw [cC h, gC, adY, Is h]; rfl
def CG (s : aU) : Bool := (eY s).getD false
theorem Ts (s : aU) : eY s = some (CG s) := by obtain ⟨v, h, _⟩ := AR s; rw [CG, h]; rfl
theorem Tt (s : aU) : gT s = some (CG s) := by obtain ⟨v, h, h2⟩ := AR s; rw [CG, h, h2]; rfl
def KT : aU := [116, 104, 105, 115]
def yc (l : List aU) (k : Nat) : Bool := (List.range k).any fun j => decide (gS l j = gS l k)
theorem zm {l : List aU} {k : Nat} : yc l k = true ↔ ∃ j, j < k ∧ gS l j = gS l k := by
 unfold yc
 rw [List.any_eq_true]
 constructor
 ·rintro ⟨j, h1, h2⟩; exact ⟨j, by simpa using h1, by simpa using h2⟩
 ·rintro ⟨j, h1, h2⟩; exact ⟨j, by simpa using h1, by simpa using h2⟩
def CH (l : List aU) (k : Nat) : Bool := !yc l k && CG (gS l k) && !decide (gS l k = KT)
theorem WM (a0 : aC) (hn : a0.ay.length ≤ 2000000) : eQ a0 [] 0 = some (if iz (CH a0.ay) 0 a0.ay.length = true then .inl () else .inr false) := by
 refine CF (L := fun l y => eQ a0 l y) (CH a0.ay) a0.ay.length (fun l k => ∀ x, rY l x false = true ↔ ∃ j, j < k ∧ gS a0.ay j = x) (fun l k hk hi => ?_) (fun l hi => ?_) a0.ay.length 0 [] ahw (aeo _) (fun x => ⟨fun h => by simp [rY, ir] at h, fun ⟨j, h, _⟩ => absurd h (aey _)⟩)
 ·have e : rY l (gS a0.ay k) false = yc a0.ay k := by
   rw [aeA, hi, zm]
  have : eQ a0 l (k : Int) = if yc a0.ay k = true then some (.inr false) else if CG (gS a0.ay k) = true then (if gS a0.ay k = KT then some (.inr false) else eQ a0 (fX l (gS a0.ay k) true) ((k + 1 : Nat) : Int)) else some (.inr false) := by
   rw [eQ, if_pos ahw, FX hk, sb, e, Ts, sb, ba ahw]; rfl
  simp only [this]
  unfold CH
  refine ⟨fun h => ?_, fun h => ?_⟩
  ·simp only [so, aex, decide_eq_false_iff_not] at h
   obtain ⟨⟨h1, h2⟩, h3⟩ := h
   refine ⟨fX l (gS a0.ay k) true, fun x => ?_, by rw [if_neg (by rw [h1]; simp), if_pos h2, if_neg h3]⟩
   rw [yb]
   by_cases hx : x = gS a0.ay k
   ·rw [if_pos hx]; exact ⟨fun _ => ⟨k, by omega, hx.symm⟩, fun _ => rfl⟩
   ·rw [if_neg hx, hi]
    constructor
    ·rintro ⟨j, q1, q2⟩; exact ⟨j, by omega, q2⟩
    ·rintro ⟨j, q1, q2⟩
     rcases afw.1 q1 with q | rfl
     ·exact ⟨j, q, q2⟩
     ·exact absurd q2.symm hx
  ·by_cases h1 : yc a0.ay k = true
   ·rw [if_pos h1]
   ·rw [if_neg h1]
    by_cases h2 : CG (gS a0.ay k) = true
    ·rw [if_pos h2]
     by_cases h3 : gS a0.ay k = KT
     ·rw [if_pos h3]
     ·simp [h1, h2, h3] at h
    ·rw [if_neg h2]
 ·show eQ a0 l _ = _
  rw [eQ, if_neg ahw]
theorem RV (a0 : aC) (l : List TParam) (hn : l.length ≤ a0.ay.length) (hs : a0.ay.length ≤ 2000000) :
  gV a0 l 0 = some (if iz (fun k => decide (gS a0.ay k = (gP l k).az)) 0 l.length = true then .inl () else .inr false) := by
 refine vq (L := gV a0 l) _ _ (fun k hk => ?_) (by rw [gV, if_neg ahw])
 rw [gV, if_pos ahw, JT hk, sb, FX ahw, sb, ba ahw]
 refine ⟨fun h => by rw [if_pos ahT], fun h => by rw [if_neg ahT]⟩
def PK (a0 : aC) (k : Nat) : Bool := !decide ((gC a0.ax k).a8 = 54) || a0.eN
theorem WN (a0 : aC) (hn : a0.ax.length ≤ 2000000) : gW a0 0 = some (if iz (PK a0) 0 a0.ax.length = true then .inl () else .inr false) := by
 refine vq (L := gW a0) _ _ (fun k hk => ?_) (by rw [gW, if_neg ahw])
 rw [gW, if_pos ahw, PJ hk, sb, ba ahw]
 unfold PK
 by_cases h1 : (gC a0.ax k).a8 = 54
 ·rw [if_pos h1]
  cases hg : a0.eN <;> simp [h1, hg]
 ·rw [if_neg h1]; simp [h1]
theorem WO (a0 : aC) (hn : a0.ax.length ≤ 2000000) : gU a0 0 = some (if iz (PK a0) 0 a0.ax.length = true then .inl () else .inr false) := by
 refine vq (L := gU a0) _ _ (fun k hk => ?_) (by rw [gU, if_neg ahw])
 rw [gU, if_pos ahw, PJ hk, sb, ba ahw]
 unfold PK
 by_cases h1 : (gC a0.ax k).a8 = 54
 ·rw [if_pos h1]
  cases hg : a0.eN <;> simp [h1, hg]
 ·rw [if_neg h1]; simp [h1]
theorem El (a0 : aC) (x : aU) (hn : a0.ay.length ≤ 2000000) : ∀ (f k : Nat), a0.ay.length ≤ k + f → k ≤ a0.ay.length → ∃ o, lR a0 x (k : Int) = some o ∧
  ((∃ j : Nat, k ≤ j ∧ j < a0.ay.length ∧ gS a0.ay j = x ∧ (∀ m, k ≤ m → m < j → gS a0.ay m ≠ x) ∧ o = .inr (j : Int)) ∨ ((∀ j, k ≤ j → j < a0.ay.length → gS a0.ay j ≠ x) ∧ o = .inl ()))
 | f, k, hf, hk => by
  rw [lR]
  by_cases hc : k < a0.ay.length
  ·rw [if_pos ahw, FX hc, sb]
   by_cases hx : gS a0.ay k = x
   ·rw [if_pos hx]
    exact ⟨_, rfl, .inl ⟨k, adV _, hc, hx, fun m h1 h2 => absurd h2 ahw, rfl⟩⟩
   ·obtain ⟨g, rfl⟩ : ∃ g, f = g + 1 := ⟨f - 1, by omega⟩
    rw [if_neg hx, ba ahw]
    obtain ⟨o, e, h⟩ := El a0 x hn g (k + 1) ahw ahw
    refine ⟨o, e, ?_⟩
    rcases h with ⟨j, h1, h2, h3, h4, h5⟩ | ⟨h1, h2⟩
    ·refine .inl ⟨j, by omega, h2, h3, fun m q1 q2 => ?_, h5⟩
     rcases afm q1 with rfl | q
     ·exact hx
     ·exact h4 m q q2
    ·refine .inr ⟨fun j q1 q2 => ?_, h2⟩
     rcases afm q1 with rfl | q
     ·exact hx
     ·exact h1 j q q2
  ·rw [if_neg ahw]
   exact ⟨_, rfl, .inr ⟨fun j q1 q2 => absurd q2 ahw, rfl⟩⟩
theorem L1 (a0 : aC) (hn : a0.ay.length ≤ 2000000) {k : Nat} (hk : k < a0.ay.length) : ∃ v, pM a0 (gS a0.ay k) = some v ∧ (v = (k : Int) ↔ yc a0.ay k = false) := by
 unfold pM
 obtain ⟨o, e, h⟩ := El a0 (gS a0.ay k) hn a0.ay.length 0 ahw ahw
 rw [show ((0 : Nat) : Int) = 0 from rfl] at e
 rw [e, sb]
 rcases h with ⟨j, h1, h2, h3, h4, rfl⟩ | ⟨h1, rfl⟩
 ·refine ⟨_, rfl, ?_⟩
  have PL : j ≤ k := by
   rcases aeE k j with q | q
   ·exact absurd rfl (h4 k (aeo _) q)
   ·exact q
  constructor
  ·intro h
   have : j = k := by omega
   subst this
   cases hs : yc a0.ay j
   ·rfl
   ·obtain ⟨m, q1, q2⟩ := zm.1 hs
    exact absurd q2 (h4 m (aeo _) q1)
  ·intro h
   rcases afm PL with q | q
   ·rw [q]
   ·rw [zm.2 ⟨j, q, h3⟩] at h; cases h
 ·exact absurd rfl (h1 k (aeo _) hk)
def JU (a0 : aC) (k : Nat) : Bool := CH a0.ay k && (!decide (k < a0.av.length) || decide ((gP a0.av k).az = gS a0.ay k)) &&
 (!decide (a0.av.length ≤ k ∧ k - a0.av.length < a0.aM.length) || decide ((gP a0.aM (k - a0.av.length)).az = gS a0.ay k))
theorem WQ (a0 : aC) (hn : a0.ay.length ≤ 2000000) (hp : a0.av.length ≤ 2000000) (hu : a0.aM.length ≤ 2000000) : ca a0 0 = some (if iz (JU a0) 0 a0.ay.length = true then .inl () else .inr false) := by
 refine vq (L := ca a0) _ _ (fun k hk => ?_) (by rw [ca, if_neg ahw])
 obtain ⟨v, ev, hv⟩ := L1 a0 hn hk
 have key : ca a0 (k : Int) = if JU a0 k = true then ca a0 ((k + 1 : Nat) : Int) else some (.inr false) := by
  rw [ca, if_pos ahw, FX hk, sb, Tt, sb, ba ahw]
  unfold JU CH
  cases hg : CG (gS a0.ay k)
  ·rw [if_neg ahy]; simp
  rw [if_pos rfl]
  by_cases ht : gS a0.ay k = KT
  ·have : gS a0.ay k = ([116, 104, 105, 115] : aU) := ht
   rw [if_pos this]; simp [ht]
  have ht' : ¬ gS a0.ay k = ([116, 104, 105, 115] : aU) := ht
  rw [if_neg ht', ev, sb, decide_eq_false ht]
  cases hs : yc a0.ay k
  ·rw [if_pos (hv.2 hs)]
   by_cases h1 : k < a0.av.length
   ·rw [if_pos (show (k : Int) < (a0.av.length : Int) by omega), JT h1, sb, decide_eq_true h1]
    rw [decide_eq_false (show ¬ (a0.av.length ≤ k ∧ k - a0.av.length < a0.aM.length) by omega)]
    by_cases h2 : (gP a0.av k).az = gS a0.ay k
    ·rw [if_pos h2, if_neg ahw, decide_eq_true h2]; rfl
    ·rw [if_neg h2, decide_eq_false h2]; rfl
   ·rw [if_neg (show ¬ (k : Int) < (a0.av.length : Int) by omega), if_pos (show (k : Int) ≥ (a0.av.length : Int) by omega), decide_eq_false h1]
    rw [Kj (x := (k : Int) - (a0.av.length : Int)) (n := k - a0.av.length) ahw ahw]
    by_cases h3 : k - a0.av.length < a0.aM.length
    ·rw [if_pos ahw, JT h3, sb, decide_eq_true (show a0.av.length ≤ k ∧ k - a0.av.length < a0.aM.length from ⟨by omega, h3⟩)]
     by_cases h2 : (gP a0.aM (k - a0.av.length)).az = gS a0.ay k
     ·rw [if_pos h2, decide_eq_true h2]; rfl
     ·rw [if_neg h2, decide_eq_false h2]; rfl
    ·rw [if_neg ahw, decide_eq_false (show ¬ (a0.av.length ≤ k ∧ k - a0.av.length < a0.aM.length) by omega)]; rfl
  ·rw [if_neg (fun h => by rw [hv.1 h] at hs; cases hs)]; rfl
 exact ⟨fun h => by rw [key, if_pos h], fun h => by rw [key, if_neg (by rw [h]; simp)]⟩
theorem JV (a b : List TParam) (k : Nat) : gP (a ++ b) k = if k < a.length then gP a k else gP b (k - a.length) := by
 unfold gP
 rw [adY, adY, adY]
 by_cases h : k < a.length
 ·rw [if_pos h, aew h]
 ·rw [if_neg h, aen ahw]
theorem PM (a0 : aC) (hp : a0.av.length + a0.aM.length ≤ a0.ay.length) :
  iz (JU a0) 0 a0.ay.length = (iz (CH a0.ay) 0 a0.ay.length && iz (fun k => decide (gS a0.ay k = (gP (a0.av ++ a0.aM) k).az)) 0 (a0.av ++ a0.aM).length) := by
 rw [aeA, so, oy, oy, oy]
 constructor
 ·intro h
  refine ⟨fun i h1 h2 => ?_, fun i h1 h2 => ?_⟩
  ·have := h i h1 h2
   unfold JU at this
   simp only [so] at this
   exact this.1.1
  ·rw [No] at h2
   have := h i h1 ahw
   unfold JU at this
   simp only [so, aeD, aex, decide_eq_false_iff_not, decide_eq_true_eq] at this
   rw [JV, decide_eq_true_eq]
   by_cases hc : i < a0.av.length
   ·rw [if_pos hc]
    exact (this.1.2.resolve_left (fun q => q hc)).symm
   ·rw [if_neg hc]
    exact (this.2.resolve_left (fun q => q ⟨by omega, by omega⟩)).symm
 ·rintro ⟨h1, h2⟩ i h3 h4
  unfold JU
  simp only [so, aeD, aex, decide_eq_false_iff_not, decide_eq_true_eq]
  refine ⟨⟨h1 i h3 h4, ?_⟩, ?_⟩
  ·by_cases hc : i < a0.av.length
   ·right
    have := h2 i h3 (by rw [No]; omega)
    rw [JV, decide_eq_true_eq, if_pos hc] at this
    exact this.symm
   ·exact .inl hc
  ·by_cases hc : a0.av.length ≤ i ∧ i - a0.av.length < a0.aM.length
   ·right
    have := h2 i h3 (by rw [No]; omega)
    rw [JV, decide_eq_true_eq, if_neg ahw] at this
    exact this.symm
   ·exact .inl hc
theorem PN (a0 : aC) : ∃ b, jT a0 = some b ∧ kZ a0 = some b := by
 unfold jT Un kZ
 cases hs : a0.az with
 | nil => exact ⟨false, rfl, rfl⟩
 | cons c r =>
  have e2 : oF (c :: r) 0 = some c := by
   have := ke (s := c :: r) (i := 0) ahy
   exact this
  rw [sb, if_pos ahy, e2, sb]
  refine ⟨_, rfl, ?_⟩
  congr 1
  unfold Lib.hasPrefix
  rw [aeA, beq_iff_eq]
  constructor
  ·intro h
   have h1 : c = 47 := afl.1 (by show c.toNat = 47; omega)
   subst h1; simp
  ·intro h
   have h1 : c = 47 := by simpa [List.isPrefixOf] using Eq.symm (by simpa [List.isPrefixOf] using h)
   rw [h1]; rfl
theorem L2 (a0 : aC) (hc : a0.ax.length ≤ 2000000) (hs : a0.ay.length ≤ 2000000) (hp : a0.av.length ≤ 2000000) (hu : a0.aM.length ≤ 2000000) (Q1 : a0.az.length ≤ 2000000) :
  ∃ b, jU a0 = some b ∧ mf a0 = some b ∧ (b = true → ∃ l, jg a0 = some (l, true) ∧ kn a0 = some (l, true) ∧ l.length = a0.ax.length ∧
   (∀ i (hi : i < a0.ax.length), DF (a0.ax[i]).a8 = true → 0 ≤ (a0.ax[i]).fA ∧ (a0.ax[i]).fA < a0.ax.length)) := by
 unfold jU mf oX
 obtain ⟨l, b, e1, e2, eD, jo⟩ := heights a0 hc
 obtain ⟨tb, t1, t2⟩ := PN a0
 rw [ue, sb, qw, sb]
 by_cases h1 : (1 : Int) ≤ (a0.az.length : Int) ∧ (a0.az.length : Int) ≤ 100
 case neg =>
  have hd : ¬ decide ((1 : Int) ≤ (a0.az.length : Int) ∧ (a0.az.length : Int) ≤ 100) = true := by simpa using h1
  rw [if_neg hd, if_neg hd]
  exact ⟨_, rfl, rfl, fun h => by cases h⟩
 have hd : decide ((1 : Int) ≤ (a0.az.length : Int) ∧ (a0.az.length : Int) ≤ 100) = true := by simpa using h1
 rw [if_pos hd, if_pos hd]
 by_cases h2 : (a0.ay.length : Int) > 600
 ·rw [if_pos h2]
  refine ⟨false, rfl, ?_, fun h => by cases h⟩
  by_cases h3 : (a0.ax.length : Int) > 8000
  ·rw [if_pos h3]; rfl
  ·rw [if_neg h3, if_pos h2]; rfl
 rw [if_neg h2, if_neg h2]
 by_cases h3 : (a0.ax.length : Int) > 8000
 ·rw [if_pos h3, if_pos h3]
  exact ahn
 rw [if_neg h3, if_neg h3]
 have ew : ai ((a0.av.length : Int) + (a0.aM.length : Int)) = ((a0.av.length + a0.aM.length : Nat) : Int) := Kj ahw ahw
 rw [ew]
 by_cases h4 : ((a0.av.length + a0.aM.length : Nat) : Int) > (a0.ay.length : Int)
 ·rw [if_pos h4, if_pos h4]
  exact ahn
 rw [if_neg h4, if_neg h4, WM a0 hs, WQ a0 hs hp hu, PM a0 ahw]
 have eC : tY a0.av = some a0.av := by
  unfold tY
  rw [kD ahC, sb, aeQ]
 have eA : im 24 a0.av a0.aM = some (a0.av ++ a0.aM) := kD ahw
 have eP : (some a0.av >>= fun v28 => im 24 v28 a0.aM >>= fun qh => gV a0 qh 0) = some (if iz (fun k => decide (gS a0.ay k = (gP (a0.av ++ a0.aM) k).az)) 0 (a0.av ++ a0.aM).length = true then .inl () else .inr false) := by
  rw [sb, eA, sb, RV a0 _ (by rw [No]; omega) hs]
 rw [eC, eP, WN a0 hc, WO a0 hc, t1, t2, e1, e2]
 generalize iz (CH a0.ay) 0 a0.ay.length = A
 generalize iz (fun k => decide (gS a0.ay k = (gP (a0.av ++ a0.aM) k).az)) 0 (a0.av ++ a0.aM).length = B
 generalize iz (PK a0) 0 a0.ax.length = Y
 cases A
 ·exact ahn
 cases B
 ·exact ahn
 cases Y
 ·refine ⟨false, rfl, ?_, fun h => by cases h⟩
  cases tb
  ·rfl
  ·by_cases h5 : 0 < a0.ay.length
   ·simp [sb, h5]
   ·cases hg : a0.eN <;> simp [sb, h5, hg]
 have aaL : b = true → ∃ l_1, some (l, b) = some (l_1, true) ∧ some (l, b) = some (l_1, true) ∧ l_1.length = a0.ax.length ∧
   (∀ i (hi : i < a0.ax.length), DF (a0.ax[i]).a8 = true → 0 ≤ (a0.ax[i]).fA ∧ (a0.ax[i]).fA < a0.ax.length) := fun h => by
  subst h
  exact ⟨l, rfl, rfl, (jo rfl).1, (jo rfl).2⟩
 cases tb
 ·exact ⟨b, rfl, rfl, aaL⟩
 ·by_cases h5 : 0 < a0.ay.length
  ·refine ⟨false, ?_, ?_, fun h => by cases h⟩ <;> simp [sb, h5]
  ·cases hg : a0.eN
   ·refine ⟨b, ?_, ?_, aaL⟩ <;> simp [sb, h5, hg]
   ·refine ⟨false, ?_, ?_, fun h => by cases h⟩ <;> simp [sb, h5, hg]
structure FB (f : aC) : Prop where
 nm : f.az.length ≤ 2000000
 ps : f.av.length ≤ 2000000
 us : f.aM.length ≤ 2000000
 sl : f.ay.length ≤ 2000000
 cd : f.ax.length ≤ 2000000
structure CB (c : aw) : Prop where
 fs : c.aH.length ≤ 2000000
 ms : c.aE.length ≤ 2000000
 iw : ∀ x ∈ c.aH, x.bc.wt ≤ 2000000
 mn : ∀ m ∈ c.aE, m.nB.length ≤ 2000000 ∧ m.az.length ≤ 2000000
structure PB (p : aN) : Prop where
 fl : p.a6.length ≤ 2000000
 cl : p.aJ.length ≤ 2000000
 fb : ∀ f ∈ p.a6, FB f
 cb : ∀ c ∈ p.aJ, CB c
theorem vr {σ R : Type} {L : σ → Int → Option R} (c : Nat → Bool) (n : Nat) (T F : R) (I : σ → Nat → Prop)
  (hs : ∀ s k, k < n → I s k → (c k = true → ∃ s', I s' (k + 1) ∧ L s (k : Int) = L s' ((k + 1 : Nat) : Int)) ∧ (c k = false → L s (k : Int) = some F))
  (he : ∀ s, I s n → L s (n : Int) = some T) : ∀ (f k : Nat) (s : σ), n ≤ k + f → k ≤ n → I s k → L s (k : Int) = some (if iz c k n = true then T else F)
 | f, k, s, hf, hk, hi => by
  by_cases hc : k < n
  ·obtain ⟨g, rfl⟩ : ∃ g, f = g + 1 := ⟨f - 1, by omega⟩
   obtain ⟨h1, h2⟩ := hs s k hc hi
   rw [zl hc]
   cases Lu : c k
   ·rw [h2 Lu, afd, if_neg ahy]
   ·obtain ⟨s', q1, q2⟩ := h1 Lu
    rw [q2, aeT]
    exact vr c n T F I hs he g (k + 1) s' ahw ahw q1
  ·have : k = n := by omega
   subst this
   rw [he s hi, if_pos CE]
theorem mo {R : Type} {L : Int → Option R} (c : Nat → Bool) (n : Nat) (T F : R)
  (hs : ∀ k, k < n → (c k = true → L (k : Int) = L ((k + 1 : Nat) : Int)) ∧ (c k = false → L (k : Int) = some F))
  (he : L (n : Int) = some T) : L 0 = some (if iz c 0 n = true then T else F) :=
 vr (σ := Unit) (L := fun _ => L) c n T F (fun _ _ => True) (fun s k hk _ => ⟨fun h => ⟨(), trivial, (hs k hk).1 h⟩, (hs k hk).2⟩) (fun _ _ => he) n 0 () ahw (aeo _) trivial
def gF (p : aN) (i : Nat) : aC := p.a6.getD i default
def gK (p : aN) (i : Nat) : aw := p.aJ.getD i default
def gD (c : aw) (i : Nat) : au := c.aH.getD i default
def gM (c : aw) (i : Nat) : aj := c.aE.getD i default
theorem yd {α : Type} [Inhabited α] {l : List α} {i : Nat} (h : i < l.length) : l.getD i default = l[i] := by rw [adY, Is h]; rfl
theorem Em {α : Type} [Inhabited α] {l : List α} {i : Nat} (h : i < l.length) : idx l (i : Int) = some (l.getD i default) := by rw [cC h, yd h]
theorem L3 {p : aN} {i : Nat} (h : i < p.a6.length) : idx p.a6 (i : Int) = some (gF p i) := Em h
theorem WR {p : aN} {i : Nat} (h : i < p.aJ.length) : idx p.aJ (i : Int) = some (gK p i) := Em h
theorem RW {c : aw} {i : Nat} (h : i < c.aH.length) : idx c.aH (i : Int) = some (gD c i) := Em h
theorem aaM {c : aw} {i : Nat} (h : i < c.aE.length) : idx c.aE (i : Int) = some (gM c i) := Em h
theorem z8 {α : Type} [Inhabited α] {l : List α} {i : Nat} (h : i < l.length) : l.getD i default ∈ l := by rw [yd h]; exact aee h
def HR (q : Nat → Bool) (k : Nat) : Bool := (List.range k).any q
theorem nO {q : Nat → Bool} {k : Nat} : HR q k = true ↔ ∃ j, j < k ∧ q j = true := by
 unfold HR
 rw [List.any_eq_true]
 constructor
 ·rintro ⟨j, h1, h2⟩; exact ⟨j, by simpa using h1, h2⟩
 ·rintro ⟨j, h1, h2⟩; exact ⟨j, by simpa using h1, h2⟩
theorem findF (p : aN) (s : aU) (hl : p.a6.length ≤ 2000000) : ∃ r, fU p s = some r ∧ ((r = -1 ∧ ∀ j, j < p.a6.length → (gF p j).az ≠ s) ∨ ∃ j : Nat, j < p.a6.length ∧ r = (j : Int) ∧ (gF p j).az = s ∧ ∀ i, i < j → (gF p i).az ≠ s) := by
 have go : ∀ m i : Nat, i ≤ p.a6.length → p.a6.length - i = m → (∀ j, j < i → (gF p j).az ≠ s) → ∃ o, gO p s (i : Int) = some o ∧ ((o = .inl () ∧ ∀ j, j < p.a6.length → (gF p j).az ≠ s) ∨ ∃ j : Nat, j < p.a6.length ∧ o = .inr (j : Int) ∧ (gF p j).az = s ∧ ∀ i, i < j → (gF p i).az ≠ s) := by
  intro m
  induction m with
  | zero =>
   intro i h1 h2 h3
   rw [gO, if_neg ahw]
   exact ⟨_, rfl, .inl ⟨rfl, fun j hj => h3 j ahw⟩⟩
  | succ m ihm =>
   intro i h1 h2 h3
   have bO : i < p.a6.length := by omega
   rw [gO, if_pos ahw, L3 bO, sb]
   by_cases hc : (gF p i).az = s
   ·rw [if_pos hc]; exact ⟨_, rfl, .inr ⟨i, bO, rfl, hc, h3⟩⟩
   ·rw [if_neg hc, ba ahw]
    exact ihm (i + 1) ahw ahw (fun j hj => by
     by_cases jm : j = i
     ·subst jm; exact hc
     ·exact h3 j ahw)
 obtain ⟨o, e, h⟩ := go _ 0 (aeo _) rfl (fun j hj => absurd hj (aey _))
 replace e : gO p s 0 = some o := e
 unfold fU
 rw [e, sb]
 rcases h with ⟨rfl, h⟩ | ⟨j, h1, rfl, h2, h3⟩
 ·exact ahr
 ·exact ⟨_, rfl, .inr ⟨j, h1, rfl, h2, h3⟩⟩
theorem aaN (p : aN) (s : aU) (hl : p.aJ.length ≤ 2000000) : ∃ r, ku p.aJ s = some r ∧ ((r = -1 ∧ ∀ j, j < p.aJ.length → (gK p j).az ≠ s) ∨ ∃ j : Nat, j < p.aJ.length ∧ r = (j : Int) ∧ (gK p j).az = s ∧ ∀ i, i < j → (gK p i).az ≠ s) := by
 have go : ∀ m i : Nat, i ≤ p.aJ.length → p.aJ.length - i = m → (∀ j, j < i → (gK p j).az ≠ s) → ∃ o, fI p.aJ s (i : Int) = some o ∧ ((o = .inl () ∧ ∀ j, j < p.aJ.length → (gK p j).az ≠ s) ∨ ∃ j : Nat, j < p.aJ.length ∧ o = .inr (j : Int) ∧ (gK p j).az = s ∧ ∀ i, i < j → (gK p i).az ≠ s) := by
  intro m
  induction m with
  | zero =>
   intro i h1 h2 h3
   rw [fI, if_neg ahw]
   exact ⟨_, rfl, .inl ⟨rfl, fun j hj => h3 j ahw⟩⟩
  | succ m ihm =>
   intro i h1 h2 h3
   have bO : i < p.aJ.length := by omega
   rw [fI, if_pos ahw, WR bO, sb]
   by_cases hc : (gK p i).az = s
   ·rw [if_pos hc]; exact ⟨_, rfl, .inr ⟨i, bO, rfl, hc, h3⟩⟩
   ·rw [if_neg hc, ba ahw]
    exact ihm (i + 1) ahw ahw (fun j hj => by
     by_cases jm : j = i
     ·subst jm; exact hc
     ·exact h3 j ahw)
 obtain ⟨o, e, h⟩ := go _ 0 (aeo _) rfl (fun j hj => absurd hj (aey _))
 replace e : fI p.aJ s 0 = some o := e
 unfold ku
 rw [e, sb]
 rcases h with ⟨rfl, h⟩ | ⟨j, h1, rfl, h2, h3⟩
 ·exact ahr
 ·exact ⟨_, rfl, .inr ⟨j, h1, rfl, h2, h3⟩⟩
def Tu (f : aC) : Bool := (jU f).getD false
theorem JW {f : aC} (h : FB f) : jU f = some (Tu f) ∧ mf f = some (Tu f) := by
 obtain ⟨b, e1, e2, _⟩ := L2 f h.cd h.sl h.ps h.us h.nm
 unfold Tu
 rw [e1, e2]
 exact ⟨rfl, rfl⟩
def Aa (p : aN) (k : Nat) : Bool := HR (fun j => decide ((gF p j).az = (gF p k).az)) k
def vX (p : aN) (k : Nat) : Bool := !Aa p k && Tu (gF p k)
theorem WS {p : aN} (h : PB p) : dO p 0 = some (if iz (vX p) 0 p.a6.length = true then .inl () else .inr false) := by
 have zQ := h.fl
 refine mo (L := dO p) _ _ _ _ (fun k hk => ?_) (by rw [dO, if_neg ahw])
 have hfb : FB (gF p k) := h.fb _ (z8 hk)
 obtain ⟨r, e, hr⟩ := findF p (gF p k).az h.fl
 have hrk : r = (k : Int) ↔ Aa p k = false := by
  rw [afz, Ne, Aa, nO]
  rcases hr with ⟨rfl, hn⟩ | ⟨j, h1, rfl, h2, h3⟩
  ·exact absurd rfl (hn k hk)
  ·constructor
   ·intro PL
    rintro ⟨i, q1, q2⟩
    exact h3 i ahw (by simpa using q2)
   ·intro hn
    by_cases PL : j = k
    ·rw [PL]
    ·exfalso
     by_cases bO : j < k
     ·exact hn ⟨j, bO, by simpa using h2⟩
     ·exact h3 k ahw rfl
 have this : dO p (k : Int) = if r = (k : Int) then (if Tu (gF p k) = true then dO p ((k + 1 : Nat) : Int) else some (.inr false)) else some (.inr false) := by
  rw [dO, if_pos ahw, L3 hk, sb]
  show (fU p (gF p k).az >>= _) = _
  rw [e, sb, sb]
  show (if r = (k : Int) then (mf (gF p k) >>= _) else _) = _
  rw [(JW hfb).2, sb, ba ahw]
 rw [this]
 unfold vX
 refine ⟨fun hc => ?_, fun hc => ?_⟩
 ·simp only [so, aex] at hc
  rw [if_pos (hrk.2 hc.1), if_pos hc.2]
 ·by_cases h1 : r = (k : Int)
  ·rw [if_pos h1]
   by_cases h2 : Tu (gF p k) = true
   ·rw [hrk.1 h1, h2] at hc; cases hc
   ·rw [if_neg h2]
  ·rw [if_neg h1]
def MF (p : aN) (l : List (aU × Int)) (k : Nat) : Prop := ∀ x, (∀ j, j < k → (gF p j).az = x → ir l x = some (j : Int)) ∧ ((∀ j, j < k → (gF p j).az ≠ x) → ir l x = none)
theorem WT {p : aN} (h : PB p) : ∃ o, fJ p [] 0 = some o ∧ ((iz (vX p) 0 p.a6.length = true ∧ ∃ l, o = .inl l ∧ MF p l p.a6.length) ∨ (iz (vX p) 0 p.a6.length = false ∧ o = .inr false)) := by
 have zQ := h.fl
 have go : ∀ m k : Nat, k ≤ p.a6.length → p.a6.length - k = m → ∀ l, MF p l k → ∃ o, fJ p l (k : Int) = some o ∧ ((iz (vX p) k p.a6.length = true ∧ ∃ l, o = .inl l ∧ MF p l p.a6.length) ∨ (iz (vX p) k p.a6.length = false ∧ o = .inr false)) := by
  intro m
  induction m with
  | zero =>
   intro k h1 h2 l hl
   have hk : k = p.a6.length := by omega
   rw [fJ, if_neg ahw]
   subst hk
   exact ⟨_, rfl, .inl ⟨CE, l, rfl, hl⟩⟩
  | succ m ihm =>
   intro k h1 h2 l hl
   have hk : k < p.a6.length := by omega
   have hfb : FB (gF p k) := h.fb _ (z8 hk)
   have adK : tD l (gF p k).az = Aa p k := by
    rw [aeA, Aa, nO, tD]
    obtain ⟨a1, a2⟩ := hl (gF p k).az
    constructor
    ·intro hq
     refine afh fun xp => ?_
     rw [a2 (fun j hj he => xp ⟨j, hj, by simpa using he⟩)] at hq
     cases hq
    ·rintro ⟨j, hj, he⟩
     rw [a1 j hj (by simpa using he)]; rfl
   rw [fJ, if_pos ahw, L3 hk, sb, zl hk]
   show ∃ o, (if tD l (gF p k).az = true then _ else (jU (gF p k) >>= _)) = some o ∧ _
   rw [adK, (JW hfb).1, sb]
   rw [show vX p k = (!Aa p k && Tu (gF p k)) from rfl]
   cases QZ : Aa p k with
   | true => rw [if_pos rfl]; exact ⟨_, rfl, .inr ⟨by simp, rfl⟩⟩
   | false =>
    rw [if_neg ahx]
    cases hf : Tu (gF p k) with
    | false => rw [if_neg ahx]; exact ⟨_, rfl, .inr ⟨by simp, rfl⟩⟩
    | true =>
     rw [if_pos rfl, ba ahw]
     obtain ⟨o, e, ho⟩ := ihm (k + 1) ahw ahw (fX l (gF p k).az (k : Int)) (fun x => by
      obtain ⟨a1, a2⟩ := hl x
      refine ⟨fun j hj he => ?_, fun hn => ?_⟩
      ·rw [u7]
       by_cases hx : x = (gF p k).az
       ·rw [if_pos hx]
        by_cases PL : j = k
        ·rw [PL]
        ·exfalso
         have : Aa p k = true := nO.2 ⟨j, by omega, by simp [he, hx]⟩
         rw [QZ] at this; cases this
       ·rw [if_neg hx]
        by_cases PL : j = k
        ·subst PL; exact absurd he.symm hx
        ·exact a1 j ahw he
      ·rw [u7, if_neg (fun hx => hn k ahw hx.symm)]
       exact a2 (fun j hj => hn j ahw))
     refine ⟨o, e, ?_⟩
     simpa using ho
 exact go _ 0 (aeo _) rfl [] (fun x => ⟨fun j hj => absurd hj (aey _), fun _ => rfl⟩)
def Tv (v : ah) : Bool := (decide (v.kw ≤ 200) && v.vJ) && decide (v.aF ≤ 3)
theorem WU {v : ah} (hv : v.wt ≤ 2000000) : iT v = some (decide (v.kw ≤ 200) && v.vJ) := by
 unfold iT
 rw [yE _ (adV _) v hv, sb, qZ _ (adV _) v hv]
 by_cases h : v.kw ≤ 200
 ·rw [if_pos ahw, sb, decide_eq_true h]; rfl
 ·rw [if_neg ahw, decide_eq_false h]; rfl
theorem PO {v : ah} (h : v.vJ = true) : 0 ≤ v.aF := by
 cases v with
 | mk k n s x l =>
  rw [ub] at h
  simp only [ah.lS]
  refine afh fun hk => ?_
  rw [if_neg ahw, if_neg ahw, if_neg ahw, if_neg ahw, if_neg ahw, if_neg ahw] at h
  simp at h
def ye (c : aw) (k : Nat) : Bool := HR (fun j => decide ((gD c j).az = (gD c k).az)) k
def uM (c : aw) (k : Nat) : Bool := (!ye c k && CG (gD c k).az) && Tv (gD c k).bc
theorem RZ {c : aw} (h : CB c) : cW c 0 = some (if iz (uM c) 0 c.aH.length = true then .inl () else .inr (.inr (.inr false))) := by
 have zQ := h.fs
 refine mo (L := cW c) _ _ _ _ (fun k hk => ?_) (by rw [cW, if_neg ahw])
 have hw : (gD c k).bc.wt ≤ 2000000 := h.iw _ (z8 hk)
 have inner : ∀ (v : Bool) (x y : au), cg v c x y (k : Int) 0 = some (if ye c k = true then .inr (.inr (.inr (.inr false))) else .inl (x.bc.aF, (decide (x.bc.aF > 3)), y.az, v, (!v))) := fun v x y => by
  have e := mo (L := fun q => cg v c x y (k : Int) q) (fun j => !decide ((gD c j).az = (gD c k).az)) k (.inl (x.bc.aF, (decide (x.bc.aF > 3)), y.az, v, (!v))) (.inr (.inr (.inr (.inr false)))) (fun j hj => by
   show (_ → cg v c x y (k : Int) (j : Int) = _) ∧ (_ → cg v c x y (k : Int) (j : Int) = _)
   have e1 : cg v c x y (k : Int) (j : Int) = if (gD c j).az = (gD c k).az then some (.inr (.inr (.inr (.inr false)))) else cg v c x y (k : Int) ((j + 1 : Nat) : Int) := by
    rw [cg, if_pos ahw, RW (show j < c.aH.length by omega), sb, RW hk, sb, ba ahw]
   rw [e1]
   exact ⟨fun hq => if_neg aik, fun hq => if_pos aik⟩) (by
   show cg v c x y (k : Int) (k : Int) = _
   rw [cg, if_neg ahw])
  refine e.trans ?_
  have hb : iz (fun j => !decide ((gD c j).az = (gD c k).az)) 0 k = !ye c k := by
   rw [aeA, oy, aex, afz, Ne, ye, nO]
   constructor
   ·rintro hq ⟨j, h1, h2⟩
    have := hq j (aeo _) h1
    rw [h2] at this; cases this
   ·intro hq j _ hj
    cases hd : decide ((gD c j).az = (gD c k).az) with
    | false => rfl
    | true => exact absurd ⟨j, hj, hd⟩ hq
  rw [hb]
  cases ye c k <;> rfl
 have this : cW c (k : Int) = if uM c k = true then cW c ((k + 1 : Nat) : Int) else some (.inr (.inr (.inr false))) := by
  rw [cW, if_pos ahw, RW hk, sb]
  show ((m22 (gD c k).bc >>= _) >>= _) = _
  rw [IM hw, sb, ba ahw]
  unfold uM Tv
  cases hv : (decide ((gD c k).bc.kw ≤ 200) && (gD c k).bc.vJ) with
  | false => rw [if_neg ahx, sb]; simp
  | true =>
   rw [if_pos rfl, sb]
   show ((if (gD c k).bc.aF > 3 then _ else _) >>= _) = _
   by_cases h3 : (gD c k).bc.aF > 3
   ·rw [if_pos h3, sb, decide_eq_false (by omega : ¬ (gD c k).bc.aF ≤ 3)]; simp
   ·rw [if_neg h3, decide_eq_true (by omega : (gD c k).bc.aF ≤ 3), sb]
    show ((gT (gD c k).az >>= _) >>= _) = _
    rw [Tt, sb]
    cases hg : CG (gD c k).az with
    | false => rw [if_neg ahx, sb]; simp
    | true =>
     rw [if_pos rfl, inner, sb]
     cases QZ : ye c k with
     | true => simp
     | false => simp
 rw [this]
 exact ahh
theorem R2 {c : aw} (h : CB c) : cw c [] 0 = some (if iz (uM c) 0 c.aH.length = true then .inl () else .inr (.inr (.inr false))) := by
 have zQ := h.fs
 refine vr (L := fun l y => cw c l y) (uM c) c.aH.length _ _ (fun l k => ∀ x, rY l x false = true ↔ ∃ j, j < k ∧ (gD c j).az = x) (fun l k hk hi => ?_) (fun l hi => ?_) c.aH.length 0 [] ahw (aeo _) (fun x => ⟨fun h => by simp [rY, ir] at h, fun ⟨j, h, _⟩ => absurd h (aey _)⟩)
 ·have hw : (gD c k).bc.wt ≤ 2000000 := h.iw _ (z8 hk)
  have e : rY l (gD c k).az false = ye c k := by
   rw [aeA, hi, ye, nO]
   exact ⟨fun ⟨j, h1, h2⟩ => ⟨j, h1, by simpa using h2⟩, fun ⟨j, h1, h2⟩ => ⟨j, h1, by simpa using h2⟩⟩
  have this : cw c l (k : Int) = if uM c k = true then cw c (fX l (gD c k).az true) ((k + 1 : Nat) : Int) else some (.inr (.inr (.inr false))) := by
   rw [cw, if_pos ahw, RW hk, sb]
   show (if rY l (gD c k).az false = true then _ else (eY (gD c k).az >>= _)) = _
   rw [e, Ts, sb]
   unfold uM Tv
   cases QZ : ye c k with
   | true => rw [if_pos rfl]; simp
   | false =>
    rw [if_neg ahx]
    cases hg : CG (gD c k).az with
    | false => rw [if_neg ahx]; simp
    | true =>
     rw [if_pos rfl]
     show (iT (gD c k).bc >>= _) = _
     rw [WU hw, sb]
     cases hv : (decide ((gD c k).bc.kw ≤ 200) && (gD c k).bc.vJ) with
     | false => rw [if_neg ahx]; simp
     | true =>
      have hk0 := PO (show (gD c k).bc.vJ = true by simp only [so] at hv; exact hv.2)
      rw [if_pos rfl]
      show (zu (gD c k).bc.aF 0 3 >>= _) = _
      rw [ue, sb, ba ahw]
      by_cases h3 : (gD c k).bc.aF ≤ 3
      ·rw [if_pos (by simp [hk0, h3]), if_pos (by simp [h3])]
      ·rw [if_neg (by simp [h3]), if_neg (by simp [h3])]
  simp only [this]
  refine ⟨fun hc => ⟨fX l (gD c k).az true, fun x => ?_, by rw [if_pos hc]⟩, fun hc => if_neg (by rw [hc]; decide)⟩
  rw [yb]
  by_cases hx : x = (gD c k).az
  ·rw [if_pos hx]; exact ⟨fun _ => ⟨k, by omega, hx.symm⟩, fun _ => rfl⟩
  ·rw [if_neg hx, hi]
   constructor
   ·rintro ⟨j, q1, q2⟩; exact ⟨j, by omega, q2⟩
   ·rintro ⟨j, q1, q2⟩
    rcases afw.1 q1 with q | rfl
    ·exact ⟨j, q, q2⟩
    ·exact absurd q2.symm hx
 ·show cw c l _ = _
  rw [cw, if_neg ahw]
def Du (f : aC) : Bool := (jT f).getD false
theorem KU (f : aC) : jT f = some (Du f) ∧ kZ f = some (Du f) := by
 obtain ⟨b, e1, e2⟩ := PN f
 unfold Du
 rw [e1, e2]
 exact ⟨rfl, rfl⟩
def Tw (p : aN) (s : aU) : Int := (fU p s).getD (-1)
def L4 (c : aw) (k : Nat) : aU := ((gM c k).nB ++ [58, 58]) ++ (gM c k).az
def qb (p : aN) (c : aw) (k : Nat) : Bool := decide (0 ≤ Tw p (L4 c k)) && (!Du (gF p (Tw p (L4 c k)).toNat) && decide ((gF p (Tw p (L4 c k)).toNat).aM.length = 0))
theorem PQ {p : aN} (hl : p.a6.length ≤ 2000000) (s : aU) : fU p s = some (Tw p s) ∧ ((Tw p s = -1 ∧ ∀ j, j < p.a6.length → (gF p j).az ≠ s) ∨ ∃ j : Nat, j < p.a6.length ∧ Tw p s = (j : Int) ∧ (gF p j).az = s ∧ ∀ i, i < j → (gF p i).az ≠ s) := by
 obtain ⟨r, e, h⟩ := findF p s hl
 have : Tw p s = r := by unfold Tw; rw [e]; rfl
 rw [this]
 exact ⟨e, h⟩
theorem PR {p : aN} {c : aw} (hp : PB p) (h : CB c) : cZ p c 0 = some (if iz (qb p c) 0 c.aE.length = true then .inl () else .inr (.inr false)) := by
 have zQ := h.ms
 refine mo (L := cZ p c) _ _ _ _ (fun k hk => ?_) (by rw [cZ, if_neg ahw])
 obtain ⟨m1, m2⟩ : (gM c k).nB.length ≤ 2000000 ∧ (gM c k).az.length ≤ 2000000 := h.mn _ (z8 hk)
 obtain ⟨e, hr⟩ := PQ hp.fl (L4 c k)
 have this : cZ p c (k : Int) = if qb p c k = true then cZ p c ((k + 1 : Nat) : Int) else some (.inr (.inr false)) := by
  rw [cZ, if_pos ahw, aaM hk, sb, js ahH, sb, sb, js ahD, sb]
  show (fU p (L4 c k) >>= _) = _
  rw [e, sb, ba ahw]
  rcases hr with ⟨hn, _⟩ | ⟨j, h1, hj, _⟩
  ·rw [show qb p c k = false by unfold qb; rw [hn]; rfl, hn, if_pos ahx, if_neg ahx]
  ·rw [show qb p c k = (!Du (gF p j) && decide ((gF p j).aM.length = 0)) by unfold qb; rw [hj, aeh]; simp, hj, if_neg ahw, L3 h1, sb, sb]
   show (kZ (gF p j) >>= _) = _
   rw [(KU _).2, sb]
   by_cases ht : Du (gF p j) = true
   ·rw [if_pos ht, ht]; simp
   ·have ht' : Du (gF p j) = false := by simpa using ht
    rw [if_neg ht, ht']
    show (if ((gF p j).aM.length : Int) > 0 then _ else _) = _
    by_cases hu : (gF p j).aM.length = 0
    ·rw [if_neg ahw, if_pos (by simp [hu])]
    ·rw [if_pos ahw, if_neg (by simp [hu])]
 rw [this]
 exact ahh
theorem PS {p : aN} {c : aw} (hp : PB p) (h : CB c) {l : List (aU × Int)} (hl : MF p l p.a6.length) (qh : List (aU × Bool)) : c8 p l qh c 0 = some (if iz (qb p c) 0 c.aE.length = true then .inl (fX qh c.az true) else .inr (.inr false)) := by
 have zQ := h.ms
 refine mo (L := c8 p l qh c) _ _ _ _ (fun k hk => ?_) (by rw [c8, if_neg ahw])
 obtain ⟨m1, m2⟩ : (gM c k).nB.length ≤ 2000000 ∧ (gM c k).az.length ≤ 2000000 := h.mn _ (z8 hk)
 obtain ⟨e, hr⟩ := PQ hp.fl (L4 c k)
 obtain ⟨a1, a2⟩ := hl (L4 c k)
 have this : c8 p l qh c (k : Int) = if qb p c k = true then c8 p l qh c ((k + 1 : Nat) : Int) else some (.inr (.inr false)) := by
  rw [c8, if_pos ahw, aaM hk, sb, js ahH, sb, js ahD, sb]
  show (if tD l (L4 c k) = true then (idx p.a6 (rY l (L4 c k) 0) >>= _) else _) = _
  rw [ba ahw]
  rcases hr with ⟨hn, xp⟩ | ⟨j, h1, hj, h2, _⟩
  ·have hm : tD l (L4 c k) = false := by unfold tD; rw [a2 xp]; rfl
   rw [show qb p c k = false by unfold qb; rw [hn]; rfl, hm, if_neg ahx, if_neg ahx]
  ·have hm : tD l (L4 c k) = true := by unfold tD; rw [a1 j h1 h2]; rfl
   have hg : rY l (L4 c k) 0 = (j : Int) := by unfold rY; rw [a1 j h1 h2]; rfl
   rw [show qb p c k = (!Du (gF p j) && decide ((gF p j).aM.length = 0)) by unfold qb; rw [hj, aeh]; simp, hm, if_pos rfl, hg, L3 h1, sb]
   show (jT (gF p j) >>= _) = _
   rw [(KU _).1, sb]
   by_cases ht : Du (gF p j) = true
   ·rw [if_pos ht, ht]; simp
   ·have ht' : Du (gF p j) = false := by simpa using ht
    rw [if_neg ht, ht']
    show ((idx p.a6 (rY l (L4 c k) 0) >>= fun Rf => if (Rf.aM.length : Int) > 0 then _ else _) : Option _) = _
    rw [hg, L3 h1, sb]
    by_cases hu : (gF p j).aM.length = 0
    ·rw [if_neg ahw, if_pos (by simp [hu])]
    ·rw [if_pos ahw, if_neg (by simp [hu])]
 rw [this]
 exact ahh
def Ab (p : aN) (k : Nat) : Bool := HR (fun j => decide ((gK p j).az = (gK p k).az)) k
def uN (p : aN) (k : Nat) : Bool := !Ab p k && (iz (uM (gK p k)) 0 (gK p k).aH.length && iz (qb p (gK p k)) 0 (gK p k).aE.length)
theorem PT {p : aN} (h : PB p) : dt p 0 = some (if iz (uN p) 0 p.aJ.length = true then .inl () else .inr false) := by
 have zQ := h.cl
 refine mo (L := dt p) _ _ _ _ (fun k hk => ?_) (by rw [dt, if_neg ahw])
 have hcb : CB (gK p k) := h.cb _ (z8 hk)
 obtain ⟨r, e, hr⟩ := aaN p (gK p k).az h.cl
 have hrk : r = (k : Int) ↔ Ab p k = false := by
  rw [afz, Ne, Ab, nO]
  rcases hr with ⟨rfl, hn⟩ | ⟨j, h1, rfl, h2, h3⟩
  ·exact absurd rfl (hn k hk)
  ·constructor
   ·intro PL
    rintro ⟨i, q1, q2⟩
    exact h3 i ahw (by simpa using q2)
   ·intro hn
    by_cases PL : j = k
    ·rw [PL]
    ·exfalso
     by_cases bO : j < k
     ·exact hn ⟨j, bO, by simpa using h2⟩
     ·exact h3 k ahw rfl
 have this : dt p (k : Int) = if uN p k = true then dt p ((k + 1 : Nat) : Int) else some (.inr false) := by
  rw [dt, if_pos ahw, WR hk, sb]
  show ((ku p.aJ (gK p k).az >>= _) >>= _) = _
  rw [e, sb, ba ahw]
  unfold uN
  by_cases h1 : r = (k : Int)
  ·rw [if_pos h1, hrk.1 h1]
   show (((cW (gK p k) 0) >>= _) >>= _) = _
   rw [RZ hcb, sb]
   cases hD : iz (uM (gK p k)) 0 (gK p k).aH.length with
   | false => simp [sb]
   | true =>
    simp only [if_true]
    show ((cZ p (gK p k) 0) >>= _) = _
    rw [PR h hcb, sb]
    cases hM : iz (qb p (gK p k)) 0 (gK p k).aE.length <;> simp
  ·rw [if_neg h1, sb]
   have : Ab p k = true := by
    cases hq : Ab p k with
    | true => rfl
    | false => exact absurd (hrk.2 hq) h1
   rw [this]; simp
 rw [this]
 exact ahh
theorem PU {p : aN} (h : PB p) {l3 : List (aU × Int)} (hl : MF p l3 p.a6.length) : da p l3 [] 0 = some (if iz (uN p) 0 p.aJ.length = true then .inl () else .inr false) := by
 have zQ := h.cl
 refine vr (L := fun l y => da p l3 l y) (uN p) p.aJ.length _ _ (fun l k => ∀ x, rY l x false = true ↔ ∃ j, j < k ∧ (gK p j).az = x) (fun l k hk hi => ?_) (fun l hi => ?_) p.aJ.length 0 [] ahw (aeo _) (fun x => ⟨fun h => by simp [rY, ir] at h, fun ⟨j, h, _⟩ => absurd h (aey _)⟩)
 ·have hcb : CB (gK p k) := h.cb _ (z8 hk)
  have e : rY l (gK p k).az false = Ab p k := by
   rw [aeA, hi, Ab, nO]
   exact ⟨fun ⟨j, h1, h2⟩ => ⟨j, h1, by simpa using h2⟩, fun ⟨j, h1, h2⟩ => ⟨j, h1, by simpa using h2⟩⟩
  have this : da p l3 l (k : Int) = if uN p k = true then da p l3 (fX l (gK p k).az true) ((k + 1 : Nat) : Int) else some (.inr false) := by
   rw [da, if_pos ahw, WR hk, sb]
   show ((if rY l (gK p k).az false = true then _ else ((cw (gK p k) [] 0) >>= _)) >>= _) = _
   rw [e, R2 hcb, sb, ba ahw]
   unfold uN
   cases QZ : Ab p k with
   | true => rw [if_pos rfl, sb]; simp
   | false =>
    rw [if_neg ahx]
    cases hD : iz (uM (gK p k)) 0 (gK p k).aH.length with
    | false => simp [sb]
    | true =>
     simp only [if_true]
     show ((c8 p l3 l (gK p k) 0) >>= _) = _
     rw [PS h hcb hl, sb]
     cases hM : iz (qb p (gK p k)) 0 (gK p k).aE.length <;> simp
  simp only [this]
  refine ⟨fun hc => ⟨fX l (gK p k).az true, fun x => ?_, by rw [if_pos hc]⟩, fun hc => if_neg (by rw [hc]; decide)⟩
  rw [yb]
  by_cases hx : x = (gK p k).az
  ·rw [if_pos hx]; exact ⟨fun _ => ⟨k, by omega, hx.symm⟩, fun _ => rfl⟩
  ·rw [if_neg hx, hi]
   constructor
   ·rintro ⟨j, q1, q2⟩; exact ⟨j, by omega, q2⟩
   ·rintro ⟨j, q1, q2⟩
    rcases afw.1 q1 with q | rfl
    ·exact ⟨j, q, q2⟩
    ·exact absurd q2.symm hx
 ·show da p l3 l _ = _
  rw [da, if_neg ahw]
def XL (p : aN) : Bool := (decide (p.a6.length ≤ 5000) && decide (p.aJ.length ≠ 0)) && ((decide ((gK p 0).az = ([69, 114, 114, 111, 114] : aU)) && (decide ((gK p 0).aH.length ≠ 0) && decide ((gD (gK p 0) 0).az = ([109, 101, 115, 115, 97, 103, 101] : aU)))) && (iz (vX p) 0 p.a6.length && iz (uN p) 0 p.aJ.length))
theorem WV {p : aN} (h : PB p) : lU p = some (XL p) ∧ lT p = some (XL p) := by
 have zQ := h.fl
 unfold lU lT XL
 by_cases h1 : (p.a6.length : Int) > 5000
 ·rw [if_pos h1, if_pos h1, decide_eq_false (by omega : ¬ p.a6.length ≤ 5000)]; simp
 rw [if_neg h1, if_neg h1, decide_eq_true (by omega : p.a6.length ≤ 5000)]
 by_cases h2 : (p.aJ.length : Int) = 0
 ·rw [if_pos h2, if_pos h2, decide_eq_false (by omega : ¬ p.aJ.length ≠ 0)]; simp
 rw [if_neg h2, if_neg h2, decide_eq_true (by omega : p.aJ.length ≠ 0)]
 have hx : idx p.aJ 0 = some (gK p 0) := Em (i := 0) ahw
 obtain ⟨o, e1, ho⟩ := WT h
 rw [e1, sb, hx, WS h, PT h]
 simp only [sb, Bool.and_self, aeT]
 have hf : ∀ q : (gK p 0).aH.length ≠ 0, idx (gK p 0).aH 0 = some (gD (gK p 0) 0) := fun q => Em (i := 0) ahw
 constructor
 ·rcases ho with ⟨hA, l, rfl, hl⟩ | ⟨hA, rfl⟩
  ·simp only [PU h hl, sb, hA]
   by_cases h3 : (gK p 0).az = ([69, 114, 114, 111, 114] : aU)
   ·rw [if_pos h3, decide_eq_true h3]
    by_cases h4 : (gK p 0).aH.length = 0
    ·rw [if_pos ahw]; simp [h4]
    ·rw [if_neg ahw, hf h4, sb]
     by_cases h5 : (gD (gK p 0) 0).az = ([109, 101, 115, 115, 97, 103, 101] : aU)
     ·rw [if_pos h5, decide_eq_true h5]
      cases iz (uN p) 0 p.aJ.length <;> simp [h4]
     ·rw [if_neg h5, decide_eq_false h5]; simp
   ·rw [if_neg h3, decide_eq_false h3]; simp
  ·simp only [hA]; simp
 ·by_cases h3 : (gK p 0).az = ([69, 114, 114, 111, 114] : aU)
  ·rw [if_pos h3, decide_eq_true h3]
   by_cases h4 : (gK p 0).aH.length = 0
   ·rw [if_pos ahw]; simp [h4]
   ·rw [if_neg ahw, hf h4, sb]
    by_cases h5 : (gD (gK p 0) 0).az = ([109, 101, 115, 115, 97, 103, 101] : aU)
    ·rw [if_pos h5, decide_eq_true h5]
     cases iz (vX p) 0 p.a6.length <;> cases iz (uN p) 0 p.aJ.length <;> simp [h4]
    ·rw [if_neg h5, decide_eq_false h5]; simp
  ·rw [if_neg h3, decide_eq_false h3]; simp
theorem L5 {p : aN} (h : PB p) (hp : XL p = true) : (∀ f ∈ p.a6, jU f = some true) ∧ ∀ c ∈ p.aJ, ∀ x ∈ c.aH, Tv x.bc = true := by
 unfold XL at hp
 simp only [so] at hp
 obtain ⟨_, _, hF, hK⟩ := hp
 refine ⟨fun f hf => ?_, fun c hc x hx => ?_⟩
 ·obtain ⟨i, hi, rfl⟩ := afr hf
  have := oy.1 hF i (aeo _) hi
  unfold vX at this
  rw [so] at this
  have h2 := this.2
  rw [gF, yd hi] at h2
  rw [(JW (h.fb _ hf)).1, h2]
 ·obtain ⟨i, hi, rfl⟩ := afr hc
  have := oy.1 hK i (aeo _) hi
  unfold uN at this
  rw [so, so] at this
  have h2 := this.2.1
  rw [gK, yd hi] at h2
  obtain ⟨j, hj, rfl⟩ := afr hx
  have := oy.1 h2 j (aeo _) hj
  unfold uM at this
  rw [so] at this
  have h3 := this.2
  rw [gD, yd hj] at h3
  exact h3
def zS {α : Type} (z : α → Nat) (l : List α) : Nat := l.length + (l.map z).sum
theorem uO {α : Type} {z : α → Nat} : zS z [] = 0 := rfl
theorem qR {α : Type} {z : α → Nat} {x : α} {l : List α} : zS z (x :: l) = (1 + z x) + zS z l := by unfold zS; simp; omega
theorem WW {α : Type} {z : α → Nat} {a b : List α} : zS z (a ++ b) = zS z a + zS z b := by unfold zS; simp; omega
theorem qc {α : Type} {z : α → Nat} (l : List α) : l.length ≤ zS z l := by unfold zS; omega
theorem tc {α : Type} {z : α → Nat} : ∀ {l : List α} {x : α}, x ∈ l → 1 + z x ≤ zS z l
 | y :: l, x, h => by
  rw [qR]
  rcases aed.1 h with rfl | h
  ·omega
  ·have := tc (z := z) h; omega
theorem zn {α : Type} (l : List α) : zS (fun _ => 0) l = l.length := by
 induction l with
 | nil => rfl
 | cons x l ih => rw [qR, ih]; simp; omega
theorem qS {α : Type} [Inhabited α] (B : Nat) {L : List α → List α → Int → Int → Option (Int × List α)} {H : List α → Int → Int → Option (Int ⊕ Int)} (l : List α) (z : α → Nat)
  (step : ∀ x ∈ l, ∀ k : Nat, k + 7 * (1 + z x) ≤ B → ∃ (k' : Nat) (y : α), k ≤ k' ∧ k' ≤ k + 7 * (1 + z x) ∧
   (∀ (m : List α) (i : Nat), i < l.length → idx m (i : Int) = some x → L l m (k : Int) (i : Int) = L l (m.set i y) (k' : Int) ((i + 1 : Nat) : Int)) ∧
   ∀ (m : List α) (i : Nat), i < m.length → m.length ≤ B → idx m (i : Int) = some y → H m (k : Int) (i : Int) = H m (k' : Int) ((i + 1 : Nat) : Int))
  (he : ∀ m k, L l m k (l.length : Int) = some (k, m)) (hh : ∀ m k, H m k (m.length : Int) = some (.inl k)) :
  ∀ k : Nat, k + 7 * zS z l ≤ B → ∃ (k' : Nat) (l' : List α), L l l (k : Int) 0 = some ((k' : Int), l') ∧ k ≤ k' ∧ k' ≤ k + 7 * zS z l ∧ l'.length = l.length ∧ H l' (k : Int) 0 = some (.inl (k' : Int)) := by
 have go : ∀ (R P : List α) (k : Nat), (∀ x ∈ R, x ∈ l) → P.length + R.length = l.length → l.length ≤ B → k + 7 * zS z R ≤ B →
   ∃ (k' : Nat) (R' : List α), L l (P ++ R) (k : Int) (P.length : Int) = some ((k' : Int), P ++ R') ∧ k ≤ k' ∧ k' ≤ k + 7 * zS z R ∧ R'.length = R.length ∧ ∀ Q : List α, Q.length = P.length → H (Q ++ R') (k : Int) (Q.length : Int) = some (.inl (k' : Int)) := by
  intro R
  induction R with
  | nil =>
   intro P k h1 h2 h3 h4
   simp only [adU, aeO] at h2
   refine ⟨k, [], ?_, adV _, by omega, rfl, fun Q hQ => ?_⟩
   ·rw [aeI, h2]; exact he P k
   ·rw [aeI]; exact hh Q k
  | cons x R ih =>
   intro P k h1 h2 h3 h4
   rw [qR] at h4
   simp only [As] at h2
   obtain ⟨k1, y, g1, g2, g3, g4⟩ := step x (h1 x ahy) k ahw
   have hx : ∀ (S : List α) (w : α) (T : List α), idx (S ++ w :: T) (S.length : Int) = some w := fun S w T => by
    rw [cC ahy]; simp
   have UN : (P ++ x :: R).set P.length y = (P ++ [y]) ++ R := by simp
   obtain ⟨k', R', f1, f2, f3, f4, f5⟩ := ih (P ++ [y]) k1 (fun w hw => h1 w (by simp [hw])) ahC h3 ahw
   refine ⟨k', y :: R', ?_, by omega, by rw [qR]; omega, by simp [f4], fun Q hQ => ?_⟩
   ·rw [g3 _ _ ahw (hx P x R), UN]
    have e : ((P ++ [y]).length : Int) = ((P.length + 1 : Nat) : Int) := by simp
    rw [← e, f1]; simp
   ·rw [g4 _ _ ahy (by simp [f4]; omega) (hx Q y R')]
    have f6 := f5 (Q ++ [y]) (by simp [hQ])
    have e : ((Q ++ [y]).length : Int) = ((Q.length + 1 : Nat) : Int) := by simp
    rw [e] at f6
    simpa using f6
 intro k hk
 have hl := qc (z := z) l
 obtain ⟨k', l', e1, e2, e3, e4, e5⟩ := go l [] k (fun x hx => hx) ahy ahw hk
 exact ⟨k', l', by simpa using e1, e2, e3, e4, by simpa using e5 [] rfl⟩
theorem HS (l : List TParam) (k : Nat) (h : k + 7 * l.length ≤ 1000000000) : ∃ (k' : Nat) (l' : List TParam), jx l (k : Int) = some ((k' : Int), l') ∧ k ≤ k' ∧ k' ≤ k + 7 * l.length ∧ l'.length = l.length ∧ jy l' (k : Int) = some (k' : Int) := by
 obtain ⟨k', l', e1, e2, e3, e4, e5⟩ := qS 1000000000 (L := gp) (H := gu) l (fun _ => 0) (fun x hx k hk => by
  have SH := qc (z := (fun _ => 0)) l
  have P8 := tc (z := (fun _ => 0)) hx
  refine ⟨k + 1 + 1, TParam.mk (GL (k : Int)) ((((k + 1 : Nat) : Int).tmod 3) == 0), by omega, by omega, fun m i hi hm => ?_, fun m i hi hl hm => ?_⟩
  ·rw [gp, if_pos ahw]
   simp (disch := omega) only [hm, kB, ba, sb, aeh]
  ·rw [gu, if_pos ahw]
   simp (disch := omega) only [hm, if_true, kB, ba, sb, aeh, if_neg, au.mk.injEq]) (fun m k => by rw [gp, if_neg ahw]) (fun m k => by rw [gu, if_neg ahw]) k ail
 refine ⟨k', l', ?_, e2, by rw [zn] at e3; omega, e4, ?_⟩
 ·unfold jx; rw [e1, sb]
 ·unfold jy; rw [e5, sb]
theorem L6 (l : List aU) (k : Nat) (h : k + 7 * l.length ≤ 1000000000) : ∃ (k' : Nat) (l' : List aU), jZ l (k : Int) = some ((k' : Int), l') ∧ k ≤ k' ∧ k' ≤ k + 7 * l.length ∧ l'.length = l.length ∧ j9 l' (k : Int) = some (k' : Int) := by
 obtain ⟨k', l', e1, e2, e3, e4, e5⟩ := qS 1000000000 (L := fy) (H := fD) l (fun _ => 0) (fun x hx k hk => by
  have SH := qc (z := (fun _ => 0)) l
  have P8 := tc (z := (fun _ => 0)) hx
  refine ⟨k + 1, (GL (k : Int)), by omega, by omega, fun m i hi hm => ?_, fun m i hi hl hm => ?_⟩
  ·rw [fy, if_pos ahw]
   simp (disch := omega) only [hm, kB, ba, sb, aeh]
  ·rw [fD, if_pos ahw]
   simp (disch := omega) only [hm, if_true, kB, ba, sb, aeh, if_neg, au.mk.injEq]) (fun m k => by rw [fy, if_neg ahw]) (fun m k => by rw [fD, if_neg ahw]) k ail
 refine ⟨k', l', ?_, e2, by rw [zn] at e3; omega, e4, ?_⟩
 ·unfold jZ; rw [e1, sb]
 ·unfold j9; rw [e5, sb]
theorem WX (l : List aL) (k : Nat) (h : k + 7 * l.length ≤ 1000000000) : ∃ (k' : Nat) (l' : List aL), mO l (k : Int) = some ((k' : Int), l') ∧ k ≤ k' ∧ k' ≤ k + 7 * l.length ∧ l'.length = l.length ∧ mP l' (k : Int) = some (k' : Int) := by
 obtain ⟨k', l', e1, e2, e3, e4, e5⟩ := qS 1000000000 (L := iH) (H := iJ) l (fun _ => 0) (fun x hx k hk => by
  have SH := qc (z := (fun _ => 0)) l
  have P8 := tc (z := (fun _ => 0)) hx
  refine ⟨k + 1 + 1 + 1 + 1 + 1, aL.mk (k : Int) ((k + 1 : Nat) : Int) ((k + 1 + 1 : Nat) : Int) (GL ((k + 1 + 1 + 1 : Nat) : Int)) (GL ((k + 1 + 1 + 1 + 1 : Nat) : Int)), by omega, by omega, fun m i hi hm => ?_, fun m i hi hl hm => ?_⟩
  ·rw [iH, if_pos ahw]
   simp (disch := omega) only [hm, kB, ba, sb, aeh]
  ·rw [iJ, if_pos ahw]
   simp (disch := omega) only [hm, if_true, kB, ba, sb, aeh, if_neg, au.mk.injEq]) (fun m k => by rw [iH, if_neg ahw]) (fun m k => by rw [iJ, if_neg ahw]) k ail
 refine ⟨k', l', ?_, e2, by rw [zn] at e3; omega, e4, ?_⟩
 ·unfold mO; rw [e1, sb]
 ·unfold mP; rw [e5, sb]
theorem L7 (l : List aj) (k : Nat) (h : k + 7 * l.length ≤ 1000000000) : ∃ (k' : Nat) (l' : List aj), j8 l (k : Int) = some ((k' : Int), l') ∧ k ≤ k' ∧ k' ≤ k + 7 * l.length ∧ l'.length = l.length ∧ ka l' (k : Int) = some (k' : Int) := by
 obtain ⟨k', l', e1, e2, e3, e4, e5⟩ := qS 1000000000 (L := fC) (H := fE) l (fun _ => 0) (fun x hx k hk => by
  have SH := qc (z := (fun _ => 0)) l
  have P8 := tc (z := (fun _ => 0)) hx
  refine ⟨k + 1 + 1 + 1 + 1 + 1, aj.mk (GL (k : Int)) (GL ((k + 1 : Nat) : Int)) (GL ((k + 1 + 1 : Nat) : Int)) ((((k + 1 + 1 + 1 : Nat) : Int).tmod 3) == 0) ((((k + 1 + 1 + 1 + 1 : Nat) : Int).tmod 3) == 0), by omega, by omega, fun m i hi hm => ?_, fun m i hi hl hm => ?_⟩
  ·rw [fC, if_pos ahw]
   simp (disch := omega) only [hm, kB, ba, sb, aeh]
  ·rw [fE, if_pos ahw]
   simp (disch := omega) only [hm, if_true, kB, ba, sb, aeh, if_neg, au.mk.injEq]) (fun m k => by rw [fC, if_neg ahw]) (fun m k => by rw [fE, if_neg ahw]) k ail
 refine ⟨k', l', ?_, e2, by rw [zn] at e3; omega, e4, ?_⟩
 ·unfold j8; rw [e1, sb]
 ·unfold ka; rw [e5, sb]
def zD (x : au) : Nat := x.bc.wt
def zK (x : aw) : Nat := zS zD x.aH + x.aE.length
def zF (x : aC) : Nat := x.av.length + x.aM.length + x.ay.length + x.ax.length
def zP (x : aN) : Nat := zS zF x.a6 + zS zK x.aJ
theorem PW (l : List au) (k : Nat) (h : k + 7 * zS zD l ≤ 1000000000) : ∃ (k' : Nat) (l' : List au), kP l (k : Int) = some ((k' : Int), l') ∧ k ≤ k' ∧ k' ≤ k + 7 * zS zD l ∧ l'.length = l.length ∧ kR l' (k : Int) = some (k' : Int) := by
 obtain ⟨k', l', e1, e2, e3, e4, e5⟩ := qS 1000000000 (L := gq) (H := gv) l zD (fun x hx k hk => by
  have SH := qc (z := zD) l
  have P8 := tc (z := zD) hx
  have hwe := x.bc.oQ
  simp only [zD] at hk ⊢
  obtain ⟨k1, l1, e1, g0, g1, g2, g3⟩ := DE _ x.bc.af (adV _) (k + 1 + 1 + 1 + 1 + 1 + 1 + 1) ahw
  have gn : ¬ (k1 : Int) < 0 := by omega
  refine ⟨k1, au.mk (GL (k : Int)) (GL ((k + 1 : Nat) : Int)) ((((k + 1 + 1 : Nat) : Int).tmod 3) == 0) (ah.mk ((k + 1 + 1 + 1 : Nat) : Int) ((k + 1 + 1 + 1 + 1 : Nat) : Int) (GL ((k + 1 + 1 + 1 + 1 + 1 : Nat) : Int)) ((k + 1 + 1 + 1 + 1 + 1 + 1 : Nat) : Int) l1), by omega, by omega, fun m i hi hm => ?_, fun m i hi hl hm => ?_⟩
  ·rw [gq, if_pos ahw]
   simp (disch := omega) only [hm, kB, ba, sb, aeh, e1, g3, gn, if_false, ah.lS, ah.uT, ah.uU, ah.mW, ah.fm]
  ·rw [gv, if_pos ahw]
   simp (disch := omega) only [hm, if_true, kB, ba, sb, aeh, e1, g3, gn, if_false, ah.lS, ah.uT, ah.uU, ah.mW, ah.fm, if_neg, au.mk.injEq]) (fun m k => by rw [gq, if_neg ahw]) (fun m k => by rw [gv, if_neg ahw]) k ahw
 refine ⟨k', l', ?_, e2, by omega, e4, ?_⟩
 ·unfold kP; rw [e1, sb]
 ·unfold kR; rw [e5, sb]
theorem PX (l : List aw) (k : Nat) (h : k + 7 * zS zK l ≤ 1000000000) : ∃ (k' : Nat) (l' : List aw), kQ l (k : Int) = some ((k' : Int), l') ∧ k ≤ k' ∧ k' ≤ k + 7 * zS zK l ∧ l'.length = l.length ∧ kU l' (k : Int) = some (k' : Int) := by
 obtain ⟨k', l', e1, e2, e3, e4, e5⟩ := qS 1000000000 (L := gr) (H := gw) l zK (fun x hx k hk => by
  have SH := qc (z := zK) l
  have P8 := tc (z := zK) hx
  simp only [zK] at hk ⊢
  obtain ⟨k1, l1, e1, g1, g2, g0, g3⟩ := PW x.aH (k + 1 + 1) ahw
  obtain ⟨k2, l2, e2, q1, q2, q0, q3⟩ := L7 x.aE k1 ahw
  have gn : ¬ (k1 : Int) < 0 := by omega
  have gm : ¬ (k2 : Int) < 0 := by omega
  refine ⟨k2, aw.mk (GL (k : Int)) (GL ((k + 1 : Nat) : Int)) l1 l2, by omega, by omega, fun m i hi hm => ?_, fun m i hi hl hm => ?_⟩
  ·rw [gr, if_pos ahw]
   simp (disch := omega) only [hm, kB, ba, sb, aeh, e1, g3, e2, q3, gn, gm, if_false]
  ·rw [gw, if_pos ahw]
   simp (disch := omega) only [hm, if_true, kB, ba, sb, aeh, e1, g3, e2, q3, gn, gm, if_false, if_neg, au.mk.injEq]) (fun m k => by rw [gr, if_neg ahw]) (fun m k => by rw [gw, if_neg ahw]) k ahw
 refine ⟨k', l', ?_, e2, by omega, e4, ?_⟩
 ·unfold kQ; rw [e1, sb]
 ·unfold kU; rw [e5, sb]
theorem R3 (l : List aC) (k : Nat) (h : k + 7 * zS zF l ≤ 1000000000) : ∃ (k' : Nat) (l' : List aC), lO l (k : Int) = some ((k' : Int), l') ∧ k ≤ k' ∧ k' ≤ k + 7 * zS zF l ∧ l'.length = l.length ∧ lP l' (k : Int) = some (k' : Int) := by
 obtain ⟨k', l', e1, e2, e3, e4, e5⟩ := qS 1000000000 (L := hU) (H := hZ) l zF (fun x hx k hk => by
  have SH := qc (z := zF) l
  have P8 := tc (z := zF) hx
  simp only [zF] at hk ⊢
  obtain ⟨k1, l1, e1, a1, a2, a0, a3⟩ := HS x.av (k + 1) ahw
  obtain ⟨k2, l2, e2, b1, b2, b0, b3⟩ := HS x.aM k1 ahw
  obtain ⟨k3, l3, e3, c1, c2, c0, c3⟩ := L6 x.ay k2 ahw
  obtain ⟨k4, l4, e4, d1, d2, d0, d3⟩ := WX x.ax (k3 + 1) ahw
  have g1 : ¬ (k1 : Int) < 0 := by omega
  have g2 : ¬ (k2 : Int) < 0 := by omega
  have g3 : ¬ (k3 : Int) < 0 := by omega
  have g4 : ¬ (k4 : Int) < 0 := by omega
  refine ⟨k4, aC.mk (GL (k : Int)) l1 l2 l3 (((k3 : Int).tmod 3) == 0) l4, by omega, by omega, fun m i hi hm => ?_, fun m i hi hl hm => ?_⟩
  ·rw [hU, if_pos ahw]
   simp (disch := omega) only [hm, kB, ba, sb, aeh, e1, e2, e3, e4, a3, b3, c3, d3, g1, g2, g3, g4, if_false]
  ·rw [hZ, if_pos ahw]
   simp (disch := omega) only [hm, if_true, kB, ba, sb, aeh, e1, e2, e3, e4, a3, b3, c3, d3, g1, g2, g3, g4, if_false, if_neg, au.mk.injEq]) (fun m k => by rw [hU, if_neg ahw]) (fun m k => by rw [hZ, if_neg ahw]) k ahw
 refine ⟨k', l', ?_, e2, by omega, e4, ?_⟩
 ·unfold lO; rw [e1, sb]
 ·unfold lP; rw [e5, sb]
theorem L8 (p : aN) (k : Nat) (h : k + 7 * zP p ≤ 1000000000) : ∃ (k' : Nat) (p' : aN), iI p (k : Int) = some ((k' : Int), p') ∧ k ≤ k' ∧ k' ≤ k + 7 * zP p ∧ gG p' (k : Int) = some (k' : Int) := by
 unfold zP at h ⊢
 obtain ⟨k1, l1, e1, a1, a2, a0, a3⟩ := R3 p.a6 k ahw
 obtain ⟨k2, l2, e2, b1, b2, b0, b3⟩ := PX p.aJ k1 ahw
 refine ⟨k2, ⟨l1, l2⟩, ?_, by omega, by omega, ?_⟩
 ·unfold iI; rw [e1, sb]; dsimp only; rw [e2, sb]
 ·unfold gG
  dsimp only
  rw [a3, sb, if_neg ahw, b3, sb, if_neg ahw]
theorem mC {L : Int → Option (Unit ⊕ Bool)} (n : Nat) (hs : ∀ k : Nat, k < n → L (k : Int) = L ((k + 1 : Nat) : Int)) (he : L (n : Int) = some (.inl ())) : L 0 = some (.inl ()) := by
 have := mo (L := L) (fun _ => true) n (.inl ()) (.inr true) (fun k hk => ⟨fun _ => hs k hk, fun h => by cases h⟩) he
 rw [this, if_pos (oy.2 (fun _ _ _ => rfl))]
theorem JX (x : aL) : rv x x = some true := by unfold rv; simp
theorem FY (x : TParam) : nT x x = some true := by unfold nT; simp
theorem Dv (x : aj) : mK x x = some true := by unfold mK; simp
theorem FZ (x : au) (h : x.bc.wt ≤ 2000000) : nV x x = some true := by unfold nV; simp [GN _ (adV _) _ h, sb]
theorem vY (l : List TParam) (hn : l.length ≤ 2000000) : lx l l = some true := by
 have e : iD l l 0 = some (.inl ()) := mC l.length (fun k hk => by rw [iD, if_pos ahw, cC hk, sb, sb, FY, sb, if_pos rfl, ba ahw]) (by rw [iD, if_neg ahw])
 unfold lx
 rw [if_pos rfl, e]; rfl
theorem HT (l : List aL) (hn : l.length ≤ 2000000) : pA l l = some true := by
 have e : kj l l 0 = some (.inl ()) := mC l.length (fun k hk => by rw [kj, if_pos ahw, cC hk, sb, sb, JX, sb, if_pos rfl, ba ahw]) (by rw [kj, if_neg ahw])
 unfold pA
 rw [if_pos rfl, e]; rfl
theorem CI (l : List aj) (hn : l.length ≤ 2000000) : lM l l = some true := by
 have e : hI l l 0 = some (.inl ()) := mC l.length (fun k hk => by rw [hI, if_pos ahw, cC hk, sb, sb, Dv, sb, if_pos rfl, ba ahw]) (by rw [hI, if_neg ahw])
 unfold lM
 rw [if_pos rfl, e]; rfl
theorem CJ (l : List aU) (hn : l.length ≤ 2000000) : lL l l = some true := by
 have e : hC l l 0 = some (.inl ()) := mC l.length (fun k hk => by rw [hC, if_pos ahw, cC hk, sb, sb, if_pos rfl, ba ahw]) (by rw [hC, if_neg ahw])
 unfold lL
 rw [if_pos rfl, e]; rfl
theorem Ga (l : List UInt8) (hn : l.length ≤ 9000000000000000000) : nX l l = some true := by
 have e : jw l l 0 = some (.inl ()) := mC l.length (fun k hk => by rw [jw, if_pos ahw, cC hk, sb, sb, if_pos rfl, ba ahw]) (by rw [jw, if_neg ahw])
 unfold nX
 rw [if_pos rfl, e]; rfl
theorem Dw (l : List au) (hn : l.length ≤ 2000000) (h : ∀ x ∈ l, x.bc.wt ≤ 2000000) : mM l l = some true := by
 have e : iE l l 0 = some (.inl ()) := mC l.length (fun k hk => by rw [iE, if_pos ahw, cC hk, sb, sb, FZ _ (h _ (aee hk)), sb, if_pos rfl, ba ahw]) (by rw [iE, if_neg ahw])
 unfold mM
 rw [if_pos rfl, e]; rfl
theorem HU (a : aC) (h : FB a) : pB a a = some true := by
 unfold pB
 simp [vY _ h.ps, vY _ h.us, CJ _ h.sl, HT _ h.cd, sb]
theorem Gb (a : aw) (h : CB a) : nW a a = some true := by
 unfold nW
 simp [Dw _ h.fs h.iw, CI _ h.ms, sb]
theorem Gc (l : List aC) (hn : l.length ≤ 2000000) (h : ∀ x ∈ l, FB x) : nU l l = some true := by
 have e : ju l l 0 = some (.inl ()) := mC l.length (fun k hk => by rw [ju, if_pos ahw, cC hk, sb, sb, HU _ (h _ (aee hk)), sb, if_pos rfl, ba ahw]) (by rw [ju, if_neg ahw])
 unfold nU
 rw [if_pos rfl, e]; rfl
theorem Dx (l : List aw) (hn : l.length ≤ 2000000) (h : ∀ x ∈ l, CB x) : mN l l = some true := by
 have e : iF l l 0 = some (.inl ()) := mC l.length (fun k hk => by rw [iF, if_pos ahw, cC hk, sb, sb, Gb _ (h _ (aee hk)), sb, if_pos rfl, ba ahw]) (by rw [iF, if_neg ahw])
 unfold mN
 rw [if_pos rfl, e]; rfl
theorem CK (p : aN) (h : PB p) : je p p = some true := by
 unfold je
 simp [Gc _ h.fl h.fb, Dx _ h.cl h.cb, sb]
theorem En {n : Nat} : BitVec.ofInt IntKind.i64.bits (n : Int) = BitVec.ofNat 64 n := by apply BitVec.eq_of_toInt_eq; simp [IntKind.bits]
theorem WY {n : Nat} (h : n < 9223372036854775808) : bits .and .i64 (n : Int) 127 = ((n % 128 : Nat) : Int) := by
 have e2 : BitVec.ofInt IntKind.i64.bits 127 = BitVec.ofNat 64 127 := by rfl
 have e3 : (BitVec.ofNat 64 n &&& BitVec.ofNat 64 127).toNat = n % 128 := by
  rw [BitVec.toNat_and, afx, afx, afD (a := n) ahw]
  exact Nat.and_two_pow_sub_one_eq_mod n 7
 unfold bits
 simp only [En, e2]
 show IntKind.i64.wrap ((BitVec.ofNat 64 n &&& BitVec.ofNat 64 127).toNat : Int) = _
 rw [e3, Av ahw ahw]
theorem WZ {n a j : Nat} (hn : n < 2 ^ j) (h : 2 ^ j * a + n < 9223372036854775808) : bits .or .i64 (n : Int) ((2 ^ j * a : Nat) : Int) = ((2 ^ j * a + n : Nat) : Int) := by
 have e3 : (BitVec.ofNat 64 n ||| BitVec.ofNat 64 (2 ^ j * a)).toNat = 2 ^ j * a + n := by
  rw [BitVec.toNat_or, afx, afx, afD (a := n) ahw, afD (a := 2 ^ j * a) ahw, Nat.or_comm]
  exact (Nat.two_pow_add_eq_or_of_lt hn a).symm
 unfold bits
 simp only [En]
 show IntKind.i64.wrap ((BitVec.ofNat 64 n ||| BitVec.ofNat 64 (2 ^ j * a)).toNat : Int) = _
 rw [e3, Av ahw ahw]
theorem aaO {b : List UInt8} {p : Nat} (hb : b.length ≤ 2000000) (hp : p ≤ b.length) : ∀ m i : Nat, i + m = 6 → ∀ n : Nat, n < 2 ^ (7 * i) → ∃ o, eH b ((p + i : Nat) : Int) (n : Int) (i : Int) = some o ∧ dD b (p : Int) (n : Int) (i : Int) = some o ∧
  (o = .inl () ∨ o = .inr (0, 0, false) ∨ ∃ v q : Nat, o = .inr ((v : Int), (q : Int), true) ∧ p + i + 1 ≤ q ∧ q ≤ b.length ∧ v ≤ 1000000000000) := by
 intro m
 induction m with
 | zero =>
  intro i h1 n hn
  rw [eH, dD, if_neg ahw, if_neg ahw]
  exact aht
 | succ m ihm =>
  intro i h1 n hn
  have h6 : (i : Int) < 6 := by omega
  have hp0 : ¬ (p : Int) < 0 := by omega
  have e1 : ai ((b.length : Int) - (i : Int)) = (b.length : Int) - (i : Int) := by rw [ai, Av ahw ahw]
  have e2 : ai ((p : Int) + (i : Int)) = ((p + i : Nat) : Int) := o6 ahy ahw
  rw [eH, dD]
  simp only [h6, hp0, if_true, if_false, e1, e2]
  by_cases hl : ((p + i : Nat) : Int) ≥ (b.length : Int)
  ·have E7 : (p : Int) ≥ (b.length : Int) - (i : Int) := by omega
   simp only [hl, E7, if_true]
   exact ⟨_, rfl, rfl, .inr (.inl rfl)⟩
  have E7 : ¬ (p : Int) ≥ (b.length : Int) - (i : Int) := by omega
  have bO : p + i < b.length := by omega
  simp only [hl, E7, if_false, cC bO, sb]
  generalize b[p + i]'bO = c
  have hc := c.toNat_lt
  have e3 : ai ((c.toNat : Nat) : Int) = ((c.toNat : Nat) : Int) := by rw [ai, Av ahw ahw]
  have e4 : ai (7 * (i : Int)) = ((7 * i : Nat) : Int) := o6 ahy ahw
  have e5 : min ((7 * i : Nat) : Int).toNat IntKind.i64.bits = 7 * i := by rw [aeh]; show min (7 * i) 64 = 7 * i; omega
  have hi5 : i = 0 ∨ i = 1 ∨ i = 2 ∨ i = 3 ∨ i = 4 ∨ i = 5 := by omega
  have hpw : 2 ^ (7 * i) ≤ 34359738368 := by rcases hi5 with rfl | rfl | rfl | rfl | rfl | rfl <;> decide
  have hps : 2 ^ (7 * (i + 1)) = 128 * 2 ^ (7 * i) := by rw [show 7 * (i + 1) = 7 * i + 7 by omega, Nat.pow_add]; omega
  have adT : c.toNat % 128 < 128 := afN _ ahx
  have hmul : 2 ^ (7 * i) * (c.toNat % 128) ≤ 2 ^ (7 * i) * 127 := Nat.mul_le_mul_left _ ahw
  have adL : 2 ^ (7 * i) * 127 = 127 * 2 ^ (7 * i) := Nat.mul_comm _ _
  rw [adL] at hmul
  have e6 : ((c.toNat : Nat) : Int).tmod 128 = ((c.toNat % 128 : Nat) : Int) := rfl
  have e7 : ai (((c.toNat % 128 : Nat) : Int) * 2 ^ (7 * i)) = ((2 ^ (7 * i) * (c.toNat % 128) : Nat) : Int) := o6 (by rw [Int.natCast_mul, Int.natCast_pow]; exact Int.mul_comm _ _) ahw
  have e8 : ai ((n : Int) + ((2 ^ (7 * i) * (c.toNat % 128) : Nat) : Int)) = ((2 ^ (7 * i) * (c.toNat % 128) + n : Nat) : Int) := o6 ahw ahw
  have e9 : must (0 ≤ ((7 * i : Nat) : Int)) = some () := if_pos ahw
  simp only [e3, e4, e5, e6, e7, e8, e9, WY (show c.toNat < 9223372036854775808 by omega), WZ hn (a := c.toNat % 128) ahw, sb]
  have ew : ai (((p + i : Nat) : Int) + 1) = ((p + i + 1 : Nat) : Int) := ba ahw
  rw [ew, ba ahw]
  by_cases aaP : ((c.toNat : Nat) : Int) < 128
  ·simp only [if_pos aaP]
   have fin : ∃ o : Unit ⊕ (Int × Int × Bool), (if ((2 ^ (7 * i) * (c.toNat % 128) + n : Nat) : Int) > 1000000000000 then some (.inr (0, 0, false)) else some (.inr (((2 ^ (7 * i) * (c.toNat % 128) + n : Nat) : Int), ((p + i + 1 : Nat) : Int), true))) = some o ∧
     (o = .inl () ∨ o = .inr (0, 0, false) ∨ ∃ v q : Nat, o = .inr ((v : Int), (q : Int), true) ∧ p + i + 1 ≤ q ∧ q ≤ b.length ∧ v ≤ 1000000000000) := by
    by_cases jo : ((2 ^ (7 * i) * (c.toNat % 128) + n : Nat) : Int) > 1000000000000
    ·rw [if_pos jo]; exact ⟨_, rfl, .inr (.inl rfl)⟩
    ·rw [if_neg jo]; exact ⟨_, rfl, .inr (.inr ⟨_, _, rfl, by omega, by omega, by omega⟩)⟩
   by_cases h0 : ((c.toNat : Nat) : Int) = 0
   ·simp only [if_pos h0]
    by_cases SK : (i : Int) > 0
    ·simp only [if_pos SK]; exact ⟨_, rfl, rfl, .inr (.inl rfl)⟩
    ·simp only [if_neg SK]
     obtain ⟨o, f1, f2⟩ := fin
     exact ⟨o, f1, f1, f2⟩
   ·simp only [if_neg h0]
    obtain ⟨o, f1, f2⟩ := fin
    exact ⟨o, f1, f1, f2⟩
  ·simp only [if_neg aaP]
   obtain ⟨o, f1, f2, f3⟩ := ihm (i + 1) ahw (2 ^ (7 * i) * (c.toNat % 128) + n) (by rw [hps]; omega)
   refine ⟨o, f1, f2, ?_⟩
   rcases f3 with f3 | f3 | ⟨v, q, f3, f4, f5, f6⟩
   ·exact .inl f3
   ·exact .inr (.inl f3)
   ·exact .inr (.inr ⟨v, q, f3, by omega, f5, f6⟩)
theorem Tx {b : List UInt8} {p : Nat} (hb : b.length ≤ 2000000) (hp : p ≤ b.length) : ∃ o, gH b (p : Int) = some o ∧ eu b (p : Int) = some o ∧ (o = (0, 0, false) ∨ ∃ v q : Nat, o = ((v : Int), (q : Int), true) ∧ p + 1 ≤ q ∧ q ≤ b.length ∧ v ≤ 1000000000000) := by
 obtain ⟨o, e1, e2, h⟩ := aaO hb hp 6 0 ahw 0 ahx
 replace e1 : eH b (p : Int) 0 0 = some o := e1
 replace e2 : dD b (p : Int) 0 0 = some o := e2
 unfold gH eu
 rw [if_neg ahw, e1, e2, sb]
 rcases h with rfl | rfl | ⟨v, q, rfl, h1, h2, h3⟩
 ·exact aht
 ·exact aht
 ·exact ⟨_, rfl, rfl, .inr ⟨v, q, rfl, by omega, h2, h3⟩⟩
theorem PY (b : List UInt8) : eu b (-1) = some (0, 0, false) := by
 unfold eu
 rw [dD, if_pos ahx, if_pos ahx]
 rfl
theorem aaQ {b : List UInt8} {p : Nat} (hb : b.length ≤ 2000000) (hp : p ≤ b.length) : ∃ o, lB b (p : Int) 1000000000000 = some o ∧ iV b (p : Int) (b.length : Int) = some o ∧ (o = ([], 0, false) ∨ ∃ (t : aU) (q : Nat), o = (t, (q : Int), true) ∧ p + 1 + t.length ≤ q ∧ q ≤ b.length) := by
 obtain ⟨o, e1, e2, h⟩ := Tx hb hp
 unfold lB iV
 rw [e1, e2, sb, sb]
 rcases h with rfl | ⟨v, q, rfl, h1, h2, h3⟩
 ·exact aht
 ·dsimp only
  rw [if_pos rfl, if_pos rfl, if_neg ahw]
  have e3 : ai ((b.length : Int) - (q : Int)) = (b.length : Int) - (q : Int) := by rw [ai, Av ahw ahw]
  have e4 : ai ((q : Int) + (v : Int)) = ((q + v : Nat) : Int) := o6 ahy ahw
  rw [e3, e4]
  by_cases h4 : (v : Int) > (b.length : Int) - (q : Int)
  ·rw [if_pos h4]
   refine ⟨_, rfl, ?_, .inl rfl⟩
   by_cases h5 : (v : Int) > (b.length : Int)
   ·rw [if_pos h5]
   ·rw [if_neg h5]
  ·have e5 : IU b (q : Int) ((q + v : Nat) : Int) = some ((b.take (q + v)).drop q) := by unfold IU; rw [if_pos ⟨by omega, by omega, by omega⟩]; rfl
   rw [if_neg h4, if_neg ahw, e5, sb]
   exact ⟨_, rfl, rfl, .inr ⟨_, _, rfl, by rw [aez, aeP]; omega, by omega⟩⟩
theorem W0 (b : List UInt8) (n : Int) : iV b (-1) n = some ([], 0, false) := by
 unfold iV
 rw [PY, sb]
 rfl
def St (b : List UInt8) (n : Nat) (bad : Bool) (s : Int) : Prop := n ≤ b.length ∧ ((bad = false ∧ s = (n : Int)) ∨ (bad = true ∧ s = -1))
section
variable {b : List UInt8} {n : Nat} {bad : Bool} {s : Int}
theorem qd (hb : b.length ≤ 2000000) (h : St b n bad s) : ∃ (v n1 : Nat) (cA : Bool) (s1 : Int), bA (.mk b (n : Int) bad) = some ((v : Int), .mk b (n1 : Int) cA) ∧ bV (.mk b s) = some ((v : Int), .mk b s1) ∧ St b n1 cA s1 ∧ v ≤ 1000000000000 ∧ (cA = false → bad = false ∧ n + 1 ≤ n1) := by
 obtain ⟨hn, h⟩ := h
 obtain ⟨o, e1, e2, ho⟩ := Tx hb hn
 unfold bA bV
 show ∃ (v n1 : Nat) (cA : Bool) (s1 : Int), (gH b (n : Int) >>= _) = _ ∧ (eu b s >>= _) = _ ∧ _
 rw [e1, sb]
 rcases h with ⟨rfl, rfl⟩ | ⟨rfl, rfl⟩
 ·rw [e2, sb]
  rcases ho with rfl | ⟨v, q, rfl, h1, h2, h3⟩
  ·exact ⟨0, n, true, -1, rfl, rfl, ⟨hn, .inr ⟨rfl, rfl⟩⟩, by omega, fun h => by cases h⟩
  ·exact ⟨v, q, false, (q : Int), rfl, rfl, ⟨h2, .inl ⟨rfl, rfl⟩⟩, h3, fun _ => ⟨rfl, h1⟩⟩
 ·rw [PY, sb]
  refine ⟨0, n, true, -1, ?_, rfl, ⟨hn, .inr ⟨rfl, rfl⟩⟩, by omega, fun h => by cases h⟩
  rcases ho with rfl | ⟨v, q, rfl, _⟩ <;> rfl
theorem lD (hb : b.length ≤ 2000000) (h : St b n bad s) : ∃ (t : aU) (n1 : Nat) (cA : Bool) (s1 : Int), bu (.mk b (n : Int) bad) = some (t, .mk b (n1 : Int) cA) ∧ bI (.mk b s) = some (t, .mk b s1) ∧ St b n1 cA s1 ∧ t.length ≤ b.length ∧ (cA = false → bad = false ∧ n + 1 + t.length ≤ n1) := by
 obtain ⟨hn, h⟩ := h
 obtain ⟨o, e1, e2, ho⟩ := aaQ hb hn
 unfold bu bI
 show ∃ (t : aU) (n1 : Nat) (cA : Bool) (s1 : Int), (lB b (n : Int) 1000000000000 >>= _) = _ ∧ (iV b s (b.length : Int) >>= _) = _ ∧ _
 rw [e1, sb]
 rcases h with ⟨rfl, rfl⟩ | ⟨rfl, rfl⟩
 ·rw [e2, sb]
  rcases ho with rfl | ⟨t, q, rfl, h1, h2⟩
  ·exact ⟨[], n, true, -1, rfl, rfl, ⟨hn, .inr ⟨rfl, rfl⟩⟩, by simp, fun h => by cases h⟩
  ·exact ⟨t, q, false, (q : Int), rfl, rfl, ⟨h2, .inl ⟨rfl, rfl⟩⟩, by omega, fun _ => ⟨rfl, h1⟩⟩
 ·rw [W0, sb]
  refine ⟨[], n, true, -1, ?_, rfl, ⟨hn, .inr ⟨rfl, rfl⟩⟩, by simp, fun h => by cases h⟩
  rcases ho with rfl | ⟨t, q, rfl, _⟩ <;> rfl
theorem yf (hb : b.length ≤ 2000000) (h : St b n bad s) : ∃ (v : Bool) (n1 : Nat) (cA : Bool) (s1 : Int), cG (.mk b (n : Int) bad) = some (v, .mk b (n1 : Int) cA) ∧ ez (.mk b s) = some (v, .mk b s1) ∧ St b n1 cA s1 ∧ (cA = false → bad = false ∧ n + 1 ≤ n1) := by
 obtain ⟨v, n1, cA, s1, e1, e2, h1, h2, h3⟩ := qd hb h
 unfold cG ez
 rw [e1, e2, sb, sb]
 dsimp only
 by_cases hv : (v : Int) > 1
 ·rw [if_pos hv, if_pos hv]
  exact ⟨_, n1, true, -1, rfl, rfl, ⟨h1.1, .inr ⟨rfl, rfl⟩⟩, fun h => by cases h⟩
 ·rw [if_neg hv, if_neg hv]
  exact ⟨_, n1, cA, s1, rfl, rfl, h1, h3⟩
end
theorem te {α β γ : Type} {b : List UInt8} (IL : Int → Bool → List α → Int → Option β) (SL : Int → List α → Int → Option γ) (fi : Int → Bool → List α → β) (fs : Int → List α → γ) (z : α → Nat) (G : α → Prop)
  (SK : ∀ n bad l y, ¬ y > 0 ∨ bad = true → IL n bad l y = some (fi n bad l)) (Q6 : ∀ s l y, ¬ y > 0 ∨ s = -1 → SL s l y = some (fs s l))
  (step : ∀ (n0 : Nat) (l : List α) (y : Int), n0 ≤ b.length → l.length ≤ n0 → 0 < y → y ≤ 1000000000000 → ∃ (x : α) (n1 : Nat) (cA : Bool) (s1 : Int), IL (n0 : Int) false l y = IL (n1 : Int) cA (l ++ [x]) (y - 1) ∧ SL (n0 : Int) l y = SL s1 (l ++ [x]) (y - 1) ∧ St b n1 cA s1 ∧ (cA = false → n0 + 1 + z x ≤ n1 ∧ G x)) :
  ∀ (m n0 : Nat) (bad : Bool) (s : Int) (l : List α) (y : Int), St b n0 bad s → (bad = false → b.length ≤ n0 + m ∧ l.length ≤ n0) → y ≤ 1000000000000 →
   ∃ (l' : List α) (n1 : Nat) (cA : Bool) (s1 : Int), IL (n0 : Int) bad l y = some (fi (n1 : Int) cA l') ∧ SL s l y = some (fs s1 l') ∧ St b n1 cA s1 ∧ (cA = false → bad = false ∧ n0 + zS z l' ≤ n1 + zS z l ∧ ∀ x ∈ l', x ∈ l ∨ G x) := by
 have out : ∀ (n0 : Nat) (bad : Bool) (s : Int) (l : List α) (y : Int), St b n0 bad s → (¬ y > 0 ∨ bad = true) → ∃ (l' : List α) (n1 : Nat) (cA : Bool) (s1 : Int), IL (n0 : Int) bad l y = some (fi (n1 : Int) cA l') ∧ SL s l y = some (fs s1 l') ∧ St b n1 cA s1 ∧ (cA = false → bad = false ∧ n0 + zS z l' ≤ n1 + zS z l ∧ ∀ x ∈ l', x ∈ l ∨ G x) := fun n0 bad s l y h hy =>
  ⟨l, n0, bad, s, SK _ _ _ _ hy, Q6 _ _ _ (by
   rcases hy with hy | hy
   ·exact .inl hy
   ·rcases h.2 with ⟨h1, _⟩ | ⟨_, h2⟩
    ·rw [hy] at h1; cases h1
    ·exact .inr h2), h, fun hb => ⟨hb, adV _, fun x hx => .inl hx⟩⟩
 intro m
 induction m with
 | zero =>
  intro n0 bad s l y h hm hy
  by_cases hc : ¬ y > 0 ∨ bad = true
  ·exact out n0 bad s l y h hc
  ·have hb : bad = false := by
    cases bad with
    | true => exact absurd (.inr rfl) hc
    | false => rfl
   have ru : y > 0 := afh fun q => hc (.inl q)
   subst hb
   obtain ⟨g1, g2⟩ := hm rfl
   have hs : s = (n0 : Int) := by rcases h.2 with ⟨_, h2⟩ | ⟨h1, _⟩; exact h2; cases h1
   subst hs
   obtain ⟨x, n1, cA, s1, e1, e2, h1, h2⟩ := step n0 l y h.1 g2 ru hy
   have eD : cA = true := by
    cases hq : cA with
    | true => rfl
    | false => have := (h2 hq).1; have := h1.1; omega
   obtain ⟨l', n2, W1, s2, f1, f2, f3, f4⟩ := out n1 cA s1 (l ++ [x]) (y - 1) h1 (.inr eD)
   exact ⟨l', n2, W1, s2, e1.trans f1, e2.trans f2, f3, fun hq => by have := (f4 hq).1; rw [eD] at this; cases this⟩
 | succ m ih =>
  intro n0 bad s l y h hm hy
  by_cases hc : ¬ y > 0 ∨ bad = true
  ·exact out n0 bad s l y h hc
  ·have hb : bad = false := by
    cases bad with
    | true => exact absurd (.inr rfl) hc
    | false => rfl
   have ru : y > 0 := afh fun q => hc (.inl q)
   subst hb
   obtain ⟨g1, g2⟩ := hm rfl
   have hs : s = (n0 : Int) := by rcases h.2 with ⟨_, h2⟩ | ⟨h1, _⟩; exact h2; cases h1
   subst hs
   obtain ⟨x, n1, cA, s1, e1, e2, h1, h2⟩ := step n0 l y h.1 g2 ru hy
   obtain ⟨l', n2, W1, s2, f1, f2, f3, f4⟩ := ih n1 cA s1 (l ++ [x]) (y - 1) h1 (fun hq => by
    have := (h2 hq).1
    refine ⟨by omega, ?_⟩
    simp only [No, As, adU]
    omega) ahw
   refine ⟨l', n2, W1, s2, e1.trans f1, e2.trans f2, f3, fun hq => ?_⟩
   obtain ⟨q1, q2, q3⟩ := f4 hq
   obtain ⟨r1, r2⟩ := h2 q1
   rw [WW, qR, uO] at q2
   refine ⟨rfl, by omega, fun w hw => ?_⟩
   rcases q3 w hw with q | q
   ·rcases aea.1 q with q | q
    ·exact .inl q
    ·rw [aeW] at q; subst q; exact .inr r2
   ·exact .inr q
theorem oR {α : Type} {c n : Nat} {l : List α} {x : α} (hl : l.length ≤ n) (hn : n ≤ 2000000) (hc : c ≤ 1000) : im c l [x] = some (l ++ [x]) := by
 have h1 : (l.length + 1) * c ≤ 2000001 * 1000 := Nat.mul_le_mul ahw hc
 exact if_pos (show (l.length + 1) * c ≤ 140737488355328 by omega)
theorem wy {y : Int} (h : 0 < y) (h2 : y ≤ 1000000000000) : ai (y - 1) = y - 1 := by rw [ai, Av ahw ahw]
theorem St.Ty {b : List UInt8} {n : Nat} (h : n ≤ b.length) : St b n false (n : Int) := ⟨h, .inl ⟨rfl, rfl⟩⟩
section
variable {b : List UInt8} {n : Nat} {bad : Bool} {s : Int}
theorem L9 (hb : b.length ≤ 2000000) (h : St b n bad s) {y : Int} (hy : y ≤ 1000000000000) : ∃ (l : List TParam) (n1 : Nat) (cA : Bool) (s1 : Int), cx b (n : Int) bad [] y = some (b, (n1 : Int), cA, l) ∧ dE b s [] y = some (b, s1, l) ∧ St b n1 cA s1 ∧ (cA = false → bad = false ∧ n + zS (fun _ => 0) l ≤ n1 ∧ ∀ x ∈ l, (fun _ : TParam => True) x) := by
 obtain ⟨l, n1, cA, s1, e1, e2, h1, h2⟩ := te (b := b) (fun n bad l y => cx b n bad l y) (fun s l y => dE b s l y) (fun n bad l => (b, n, bad, l)) (fun s l => (b, s, l)) (fun _ => 0) (fun _ : TParam => True)
  (fun n bad l y h => by
   rw [cx]
   rcases h with h | h
   ·rw [if_neg h]
   ·subst h
    by_cases hy : y > 0
    ·rw [if_pos hy, if_pos rfl]
    ·rw [if_neg hy])
  (fun s l y h => by
   rw [dE]
   rcases h with h | h
   ·rw [if_neg h]
   ·subst h
    by_cases hy : y > 0
    ·rw [if_pos hy, if_neg ahx]
    ·rw [if_neg hy])
  (fun n0 l y hn hl ru hy => by
   obtain ⟨v0, m0, b0, s0, i0, j0, h0, Dk, k0⟩ := lD hb (St.Ty hn)
   obtain ⟨v1, m1, b1, s1, i1, j1, h1, k1⟩ := yf hb h0
   refine ⟨TParam.mk v0 v1, m1, b1, s1, ?_, ?_, h1, fun hq => ?_⟩
   ·rw [cx, if_pos ru, if_neg ahx]
    simp only [i0, i1, sb, oR (x := TParam.mk v0 v1) (c := 24) hl (aer hn hb) ahx, wy ru hy]
   ·rw [dE, if_pos ru, if_pos ahw]
    simp only [j0, j1, sb, oR (x := TParam.mk v0 v1) (c := 24) hl (aer hn hb) ahx, wy ru hy]
   ·have Oh := k1 hq
    have Kq := k0 Oh.1
    exact ⟨by omega, trivial⟩)
  (b.length + 1) n bad s [] y h (fun _ => ⟨by omega, aeo _⟩) hy
 refine ⟨l, n1, cA, s1, e1, e2, h1, fun hq => ?_⟩
 obtain ⟨q1, q2, q3⟩ := h2 hq
 rw [uO] at q2
 exact agZ
theorem PZ (hb : b.length ≤ 2000000) (h : St b n bad s) {y : Int} (hy : y ≤ 1000000000000) : ∃ (l : List aU) (n1 : Nat) (cA : Bool) (s1 : Int), cm b (n : Int) bad [] [] [] [] [] [] y = some (b, (n1 : Int), cA, [], [], [], [], l, []) ∧ eF b s [] y = some (b, s1, l) ∧ St b n1 cA s1 ∧ (cA = false → bad = false ∧ n + zS (fun _ => 0) l ≤ n1 ∧ ∀ x ∈ l, (fun _ : aU => True) x) := by
 obtain ⟨l, n1, cA, s1, e1, e2, h1, h2⟩ := te (b := b) (fun n bad l y => cm b n bad [] [] [] [] l [] y) (fun s l y => eF b s l y) (fun n bad l => (b, n, bad, [], [], [], [], l, [])) (fun s l => (b, s, l)) (fun _ => 0) (fun _ : aU => True)
  (fun n bad l y h => by
   rw [cm]
   rcases h with h | h
   ·rw [if_neg h]
   ·subst h
    by_cases hy : y > 0
    ·rw [if_pos hy, if_pos rfl]
    ·rw [if_neg hy])
  (fun s l y h => by
   rw [eF]
   rcases h with h | h
   ·rw [if_neg h]
   ·subst h
    by_cases hy : y > 0
    ·rw [if_pos hy, if_neg ahx]
    ·rw [if_neg hy])
  (fun n0 l y hn hl ru hy => by
   obtain ⟨v0, m0, b0, s0, i0, j0, h0, Dk, k0⟩ := lD hb (St.Ty hn)
   refine ⟨v0, m0, b0, s0, ?_, ?_, h0, fun hq => ?_⟩
   ·rw [cm, if_pos ru, if_neg ahx]
    simp only [i0, sb, oR (x := v0) (c := 16) hl (aer hn hb) ahx, wy ru hy]
   ·rw [eF, if_pos ru, if_pos ahw]
    simp only [j0, sb, oR (x := v0) (c := 16) hl (aer hn hb) ahx, wy ru hy]
   ·have Kq := k0 hq
    exact ⟨by omega, trivial⟩)
  (b.length + 1) n bad s [] y h (fun _ => ⟨by omega, aeo _⟩) hy
 refine ⟨l, n1, cA, s1, e1, e2, h1, fun hq => ?_⟩
 obtain ⟨q1, q2, q3⟩ := h2 hq
 rw [uO] at q2
 exact agZ
theorem R4 (hb : b.length ≤ 2000000) (h : St b n bad s) {y : Int} (hy : y ≤ 1000000000000) : ∃ (l : List aL) (n1 : Nat) (cA : Bool) (s1 : Int), cn b (n : Int) bad [] y = some (b, (n1 : Int), cA, l) ∧ eG b s [] y = some (b, s1, l) ∧ St b n1 cA s1 ∧ (cA = false → bad = false ∧ n + zS (fun _ => 0) l ≤ n1 ∧ ∀ x ∈ l, (fun _ : aL => True) x) := by
 obtain ⟨l, n1, cA, s1, e1, e2, h1, h2⟩ := te (b := b) (fun n bad l y => cn b n bad l y) (fun s l y => eG b s l y) (fun n bad l => (b, n, bad, l)) (fun s l => (b, s, l)) (fun _ => 0) (fun _ : aL => True)
  (fun n bad l y h => by
   rw [cn]
   rcases h with h | h
   ·rw [if_neg h]
   ·subst h
    by_cases hy : y > 0
    ·rw [if_pos hy, if_pos rfl]
    ·rw [if_neg hy])
  (fun s l y h => by
   rw [eG]
   rcases h with h | h
   ·rw [if_neg h]
   ·subst h
    by_cases hy : y > 0
    ·rw [if_pos hy, if_neg ahx]
    ·rw [if_neg hy])
  (fun n0 l y hn hl ru hy => by
   obtain ⟨v0, m0, b0, s0, i0, j0, h0, Dk, k0⟩ := qd hb (St.Ty hn)
   obtain ⟨v1, m1, b1, s1, i1, j1, h1, hv1, k1⟩ := qd hb h0
   obtain ⟨v2, m2, b2, s2, i2, j2, h2, rq, k2⟩ := qd hb h1
   obtain ⟨v3, m3, b3, s3, i3, j3, h3, qs, k3⟩ := lD hb h2
   obtain ⟨v4, m4, b4, s4, i4, j4, h4, A6, k4⟩ := lD hb h3
   refine ⟨aL.mk v0 v1 v2 v3 v4, m4, b4, s4, ?_, ?_, h4, fun hq => ?_⟩
   ·rw [cn, if_pos ru, if_neg ahx]
    simp only [i0, i1, i2, i3, i4, sb, oR (x := aL.mk v0 v1 v2 v3 v4) (c := 56) hl (aer hn hb) ahx, wy ru hy]
   ·rw [eG, if_pos ru, if_pos ahw]
    simp only [j0, j1, j2, j3, j4, sb, oR (x := aL.mk v0 v1 v2 v3 v4) (c := 56) hl (aer hn hb) ahx, wy ru hy]
   ·have hq4 := k4 hq
    have hq3 := k3 hq4.1
    have hq2 := k2 hq3.1
    have Oh := k1 hq2.1
    have Kq := k0 Oh.1
    exact ⟨by omega, trivial⟩)
  (b.length + 1) n bad s [] y h (fun _ => ⟨by omega, aeo _⟩) hy
 refine ⟨l, n1, cA, s1, e1, e2, h1, fun hq => ?_⟩
 obtain ⟨q1, q2, q3⟩ := h2 hq
 rw [uO] at q2
 exact agZ
theorem JY (hb : b.length ≤ 2000000) (h : St b n bad s) {y : Int} (hy : y ≤ 1000000000000) : ∃ (l : List aj) (n1 : Nat) (cA : Bool) (s1 : Int), cO b (n : Int) bad [] y = some (b, (n1 : Int), cA, l) ∧ dU b s [] y = some (b, s1, l) ∧ St b n1 cA s1 ∧ (cA = false → bad = false ∧ n + zS (fun _ => 0) l ≤ n1 ∧ ∀ x ∈ l, (fun m : aj => m.nB.length ≤ 2000000 ∧ m.az.length ≤ 2000000) x) := by
 obtain ⟨l, n1, cA, s1, e1, e2, h1, h2⟩ := te (b := b) (fun n bad l y => cO b n bad l y) (fun s l y => dU b s l y) (fun n bad l => (b, n, bad, l)) (fun s l => (b, s, l)) (fun _ => 0) (fun m : aj => m.nB.length ≤ 2000000 ∧ m.az.length ≤ 2000000)
  (fun n bad l y h => by
   rw [cO]
   rcases h with h | h
   ·rw [if_neg h]
   ·subst h
    by_cases hy : y > 0
    ·rw [if_pos hy, if_pos rfl]
    ·rw [if_neg hy])
  (fun s l y h => by
   rw [dU]
   rcases h with h | h
   ·rw [if_neg h]
   ·subst h
    by_cases hy : y > 0
    ·rw [if_pos hy, if_neg ahx]
    ·rw [if_neg hy])
  (fun n0 l y hn hl ru hy => by
   obtain ⟨v0, m0, b0, s0, i0, j0, h0, Dk, k0⟩ := lD hb (St.Ty hn)
   obtain ⟨v1, m1, b1, s1, i1, j1, h1, hv1, k1⟩ := lD hb h0
   obtain ⟨v2, m2, b2, s2, i2, j2, h2, rq, k2⟩ := lD hb h1
   obtain ⟨v3, m3, b3, s3, i3, j3, h3, k3⟩ := yf hb h2
   obtain ⟨v4, m4, b4, s4, i4, j4, h4, k4⟩ := yf hb h3
   refine ⟨aj.mk v0 v1 v2 v3 v4, m4, b4, s4, ?_, ?_, h4, fun hq => ?_⟩
   ·rw [cO, if_pos ru, if_neg ahx]
    simp only [i0, i1, i2, i3, i4, sb, oR (x := aj.mk v0 v1 v2 v3 v4) (c := 56) hl (aer hn hb) ahx, wy ru hy]
   ·rw [dU, if_pos ru, if_pos ahw]
    simp only [j0, j1, j2, j3, j4, sb, oR (x := aj.mk v0 v1 v2 v3 v4) (c := 56) hl (aer hn hb) ahx, wy ru hy]
   ·have hq4 := k4 hq
    have hq3 := k3 hq4.1
    have hq2 := k2 hq3.1
    have Oh := k1 hq2.1
    have Kq := k0 Oh.1
    exact ⟨by omega, by dsimp only; omega⟩)
  (b.length + 1) n bad s [] y h (fun _ => ⟨by omega, aeo _⟩) hy
 refine ⟨l, n1, cA, s1, e1, e2, h1, fun hq => ?_⟩
 obtain ⟨q1, q2, q3⟩ := h2 hq
 rw [uO] at q2
 exact agZ
theorem Ma (hb : b.length ≤ 2000000) (h : St b n bad s) {y : Int} (hy : y ≤ 1000000000000) : ∃ (l : List au) (n1 : Nat) (cA : Bool) (s1 : Int), bR b (n : Int) bad [] [] [] [] y = some (b, (n1 : Int), cA, [], [], l, []) ∧ cF b s [] y = some (b, s1, l) ∧ St b n1 cA s1 ∧ (cA = false → bad = false ∧ n + zS (fun _ => 0) l ≤ n1 ∧ ∀ x ∈ l, (fun x : au => x.bc.wt ≤ 2000000) x) := by
 obtain ⟨l, n1, cA, s1, e1, e2, h1, h2⟩ := te (b := b) (fun n bad l y => bR b n bad [] [] l [] y) (fun s l y => cF b s l y) (fun n bad l => (b, n, bad, [], [], l, [])) (fun s l => (b, s, l)) (fun _ => 0) (fun x : au => x.bc.wt ≤ 2000000)
  (fun n bad l y h => by
   rw [bR]
   rcases h with h | h
   ·rw [if_neg h]
   ·subst h
    by_cases hy : y > 0
    ·rw [if_pos hy, if_pos rfl]
    ·rw [if_neg hy])
  (fun s l y h => by
   rw [cF]
   rcases h with h | h
   ·rw [if_neg h]
   ·subst h
    by_cases hy : y > 0
    ·rw [if_pos hy, if_neg ahx]
    ·rw [if_neg hy])
  (fun n0 l y hn hl ru hy => by
   obtain ⟨v0, m0, b0, s0, i0, j0, h0, Dk, k0⟩ := lD hb (St.Ty hn)
   obtain ⟨v1, m1, b1, s1, i1, j1, h1, hv1, k1⟩ := lD hb h0
   obtain ⟨v2, m2, b2, s2, i2, j2, h2, k2⟩ := yf hb h1
   obtain ⟨v3, m3, b3, s3, i3, j3, h3, qs, k3⟩ := lD hb h2
   obtain ⟨w, ok, u1, u2, u3⟩ := IP (aer qs hb)
   have hw : ∀ {bb : Bool}, bb = b3 → b3 = true ∨ True := fun _ => .inr trivial
   cases yi : ok with
   | true =>
    rw [yi] at u1 u2
    refine ⟨au.mk v0 v1 v2 w, m3, b3, s3, ?_, ?_, h3, fun hq => ?_⟩
    ·rw [bR, if_pos ru, if_neg ahx]
     simp only [i0, i1, i2, i3, u1, sb, oR (x := au.mk v0 v1 v2 w) (c := 104) hl (aer hn hb) ahx, wy ru hy]
     cases b3 <;> rfl
    ·rw [cF, if_pos ru, if_pos ahw]
     simp only [j0, j1, j2, j3, u2, sb, if_true, oR (x := au.mk v0 v1 v2 w) (c := 104) hl (aer hn hb) ahx, wy ru hy]
    ·have hq3 := k3 hq
     have hq2 := k2 hq3.1
     have Oh := k1 hq2.1
     have Kq := k0 Oh.1
     exact ⟨by omega, u3⟩
   | false =>
    rw [yi] at u1 u2
    refine ⟨au.mk v0 v1 v2 w, m3, true, -1, ?_, ?_, ⟨h3.1, .inr ⟨rfl, rfl⟩⟩, fun hq => by cases hq⟩
    ·rw [bR, if_pos ru, if_neg ahx]
     simp only [i0, i1, i2, i3, u1, sb, oR (x := au.mk v0 v1 v2 w) (c := 104) hl (aer hn hb) ahx, wy ru hy]
     cases b3 <;> rfl
    ·rw [cF, if_pos ru, if_pos ahw]
     simp only [j0, j1, j2, j3, u2, sb, if_neg (show ¬ false = true by decide), oR (x := au.mk v0 v1 v2 w) (c := 104) hl (aer hn hb) ahx, wy ru hy])
  (b.length + 1) n bad s [] y h (fun _ => ⟨by omega, aeo _⟩) hy
 refine ⟨l, n1, cA, s1, e1, e2, h1, fun hq => ?_⟩
 obtain ⟨q1, q2, q3⟩ := h2 hq
 rw [uO] at q2
 exact agZ
theorem Eo (hb : b.length ≤ 2000000) (h : St b n bad s) : ∃ (l : List TParam) (n1 : Nat) (cA : Bool) (s1 : Int), dZ (.mk b (n : Int) bad) = some (l, .mk b (n1 : Int) cA) ∧ gx (.mk b s) = some (l, .mk b s1) ∧ St b n1 cA s1 ∧ (cA = false → bad = false ∧ n + l.length ≤ n1) := by
 obtain ⟨v, m0, b0, s0, i0, j0, h0, hv, k0⟩ := qd hb h
 obtain ⟨l, m1, b1, s1, i1, j1, h1, k1⟩ := L9 hb h0 (y := (v : Int)) ahw
 refine ⟨l, m1, b1, s1, ?_, ?_, h1, fun hq => ?_⟩
 ·unfold dZ
  simp only [i0, i1, sb]
 ·unfold gx
  simp only [j0, j1, sb]
 ·have Oh := k1 hq
  have Kq := k0 Oh.1
  have := Oh.2.1
  rw [zn] at this
  exact ⟨Kq.1, by omega⟩
theorem R5 (hb : b.length ≤ 2000000) (h : St b n bad s) : ∃ (f : aC) (n1 : Nat) (cA : Bool) (s1 : Int), eK (.mk b (n : Int) bad) = some (f, .mk b (n1 : Int) cA) ∧ kg (.mk b s) = some (f, .mk b s1) ∧ St b n1 cA s1 ∧ (cA = false → bad = false ∧ n + 1 + zF f ≤ n1 ∧ FB f) := by
 obtain ⟨v0, m0, b0, s0, i0, j0, h0, Dk, k0⟩ := lD hb h
 obtain ⟨v1, m1, b1, s1, i1, j1, h1, k1⟩ := Eo hb h0
 obtain ⟨v2, m2, b2, s2, i2, j2, h2, k2⟩ := Eo hb h1
 obtain ⟨v3, m3, b3, s3, i3, j3, h3, qs, k3⟩ := qd hb h2
 obtain ⟨l4, m4, b4, s4, i4, j4, h4, k4⟩ := PZ hb h3 (y := (v3 : Int)) ahw
 obtain ⟨v5, m5, b5, s5, i5, j5, h5, k5⟩ := yf hb h4
 obtain ⟨v6, m6, b6, s6, i6, j6, h6, Ac, k6⟩ := qd hb h5
 obtain ⟨l7, m7, b7, s7, i7, j7, h7, k7⟩ := R4 hb h6 (y := (v6 : Int)) ahw
 refine ⟨aC.mk v0 v1 v2 l4 v5 l7, m7, b7, s7, ?_, ?_, h7, fun hq => ?_⟩
 ·unfold eK
  simp only [i0, i1, i2, i3, i4, i5, i6, i7, sb]
 ·unfold kg
  simp only [j0, j1, j2, j3, j4, j5, j6, j7, sb]
 ·have q7 := k7 hq
  have q6 := k6 q7.1
  have q5 := k5 q6.1
  have q4 := k4 q5.1
  have q3 := k3 q4.1
  have q2 := k2 q3.1
  have q1 := k1 q2.1
  have q0 := k0 q1.1
  have e4 := q4.2.1
  have e7 := q7.2.1
  rw [zn] at e4 e7
  have := h7.1
  have hz : zF (aC.mk v0 v1 v2 l4 v5 l7) = v1.length + v2.length + l4.length + l7.length := rfl
  refine ⟨q0.1, by omega, ⟨?_, ?_, ?_, ?_, ?_⟩⟩ <;> dsimp only <;> omega
theorem P0 (hb : b.length ≤ 2000000) (h : St b n bad s) : ∃ (c : aw) (n1 : Nat) (cA : Bool) (s1 : Int), fZ (.mk b (n : Int) bad) = some (c, .mk b (n1 : Int) cA) ∧ jG (.mk b s) = some (c, .mk b s1) ∧ St b n1 cA s1 ∧ (cA = false → bad = false ∧ n + 1 + (c.aH.length + c.aE.length) ≤ n1 ∧ CB c) := by
 obtain ⟨v0, m0, b0, s0, i0, j0, h0, Dk, k0⟩ := lD hb h
 obtain ⟨v1, m1, b1, s1, i1, j1, h1, hv1, k1⟩ := lD hb h0
 obtain ⟨v3, m3, b3, s3, i3, j3, h3, qs, k3⟩ := qd hb h1
 obtain ⟨l4, m4, b4, s4, i4, j4, h4, k4⟩ := Ma hb h3 (y := (v3 : Int)) ahw
 obtain ⟨v6, m6, b6, s6, i6, j6, h6, Ac, k6⟩ := qd hb h4
 obtain ⟨l7, m7, b7, s7, i7, j7, h7, k7⟩ := JY hb h6 (y := (v6 : Int)) ahw
 refine ⟨aw.mk v0 v1 l4 l7, m7, b7, s7, ?_, ?_, h7, fun hq => ?_⟩
 ·unfold fZ
  simp only [i0, i1, i3, i4, i6, i7, sb]
 ·unfold jG
  simp only [j0, j1, j3, j4, j6, j7, sb]
 ·have q7 := k7 hq
  have q6 := k6 q7.1
  have q4 := k4 q6.1
  have q3 := k3 q4.1
  have q1 := k1 q3.1
  have q0 := k0 q1.1
  have e4 := q4.2.1
  have e7 := q7.2.1
  rw [zn] at e4 e7
  have := h7.1
  refine ⟨q0.1, by dsimp only; omega, ⟨?_, ?_, q4.2.2, q7.2.2⟩⟩ <;> dsimp only <;> omega
theorem P1 (hb : b.length ≤ 2000000) (h : St b n bad s) {y : Int} (hy : y ≤ 1000000000000) : ∃ (l : List aC) (n1 : Nat) (cA : Bool) (s1 : Int), dH [] [] b (n : Int) bad [] [] y = some ([], [], b, (n1 : Int), cA, l, []) ∧ dF b s [] y = some (b, s1, l) ∧ St b n1 cA s1 ∧ (cA = false → bad = false ∧ n + zS zF l ≤ n1 ∧ ∀ x ∈ l, FB x) := by
 obtain ⟨l, n1, cA, s1, e1, e2, h1, h2⟩ := te (b := b) (fun n bad l y => dH [] [] b n bad l [] y) (fun s l y => dF b s l y) (fun n bad l => ([], [], b, n, bad, l, [])) (fun s l => (b, s, l)) zF FB
  (fun n bad l y h => by
   rw [dH]
   rcases h with h | h
   ·rw [if_neg h]
   ·subst h
    by_cases hy : y > 0
    ·rw [if_pos hy, if_pos rfl]
    ·rw [if_neg hy])
  (fun s l y h => by
   rw [dF]
   rcases h with h | h
   ·rw [if_neg h]
   ·subst h
    by_cases hy : y > 0
    ·rw [if_pos hy, if_neg ahx]
    ·rw [if_neg hy])
  (fun n0 l y hn hl ru hy => by
   obtain ⟨v0, m0, b0, s0, i0, j0, h0, k0⟩ := R5 hb (St.Ty hn)
   refine ⟨v0, m0, b0, s0, ?_, ?_, h0, fun hq => ?_⟩
   ·rw [dH, if_pos ru, if_neg ahx]
    simp only [i0, sb, oR (x := v0) (c := 120) hl (aer hn hb) ahx, wy ru hy]
   ·rw [dF, if_pos ru, if_pos ahw]
    simp only [j0, sb, oR (x := v0) (c := 120) hl (aer hn hb) ahx, wy ru hy]
   ·have Kq := k0 hq
    exact ⟨by omega, Kq.2.2⟩)
  (b.length + 1) n bad s [] y h (fun _ => ⟨by omega, aeo _⟩) hy
 refine ⟨l, n1, cA, s1, e1, e2, h1, fun hq => ?_⟩
 obtain ⟨q1, q2, q3⟩ := h2 hq
 rw [uO] at q2
 exact agZ
theorem JZ (hb : b.length ≤ 2000000) (h : St b n bad s) {y : Int} (hy : y ≤ 1000000000000) : ∃ (l : List aw) (n1 : Nat) (cA : Bool) (s1 : Int), dI b (n : Int) bad [] y = some (b, (n1 : Int), cA, l) ∧ dG b s [] y = some (b, s1, l) ∧ St b n1 cA s1 ∧ (cA = false → bad = false ∧ n + zS (fun c : aw => c.aH.length + c.aE.length) l ≤ n1 ∧ ∀ x ∈ l, CB x) := by
 obtain ⟨l, n1, cA, s1, e1, e2, h1, h2⟩ := te (b := b) (fun n bad l y => dI b n bad l y) (fun s l y => dG b s l y) (fun n bad l => (b, n, bad, l)) (fun s l => (b, s, l)) (fun c : aw => c.aH.length + c.aE.length) CB
  (fun n bad l y h => by
   rw [dI]
   rcases h with h | h
   ·rw [if_neg h]
   ·subst h
    by_cases hy : y > 0
    ·rw [if_pos hy, if_pos rfl]
    ·rw [if_neg hy])
  (fun s l y h => by
   rw [dG]
   rcases h with h | h
   ·rw [if_neg h]
   ·subst h
    by_cases hy : y > 0
    ·rw [if_pos hy, if_neg ahx]
    ·rw [if_neg hy])
  (fun n0 l y hn hl ru hy => by
   obtain ⟨v0, m0, b0, s0, i0, j0, h0, k0⟩ := P0 hb (St.Ty hn)
   refine ⟨v0, m0, b0, s0, ?_, ?_, h0, fun hq => ?_⟩
   ·rw [dI, if_pos ru, if_neg ahx]
    simp only [i0, sb, oR (x := v0) (c := 80) hl (aer hn hb) ahx, wy ru hy]
   ·rw [dG, if_pos ru, if_pos ahw]
    simp only [j0, sb, oR (x := v0) (c := 80) hl (aer hn hb) ahx, wy ru hy]
   ·have Kq := k0 hq
    exact ⟨by omega, Kq.2.2⟩)
  (b.length + 1) n bad s [] y h (fun _ => ⟨by omega, aeo _⟩) hy
 refine ⟨l, n1, cA, s1, e1, e2, h1, fun hq => ?_⟩
 obtain ⟨q1, q2, q3⟩ := h2 hq
 rw [uO] at q2
 exact agZ
end
theorem W2 {v : ah} (h : Tv v = true) : v.wt ≤ 1 := by
 cases v with
 | mk k n s x l =>
  unfold Tv at h
  rw [ub] at h
  simp only [so, aeD, decide_eq_true_eq, List.isEmpty_iff] at h
  have h2 : k ≤ 3 := h.2
  have h3 : l = [] := by
   rcases h.1.2.1.2 with h4 | h4
   ·omega
   ·exact h4.2
  subst h3
  exact adV _
theorem W3 : PB ⟨[], []⟩ := ⟨by simp, by simp, fun f hf => by simp at hf, fun c hc => by simp at hc⟩
theorem Mb {b : List UInt8} (hb : b.length ≤ 1048576) : ∃ p ok, gy b = some (p, ok) ∧ iW b = some (p, ok) ∧ PB p ∧ 7 * zP p ≤ 50000000 := by
 have jo : b.length ≤ 2000000 := by omega
 obtain ⟨v0, m0, b0, s0, i0, j0, h0, Dk, k0⟩ := qd jo (St.Ty (aeo b.length))
 replace i0 : bA (.mk b 0 false) = _ := i0
 replace j0 : bV (.mk b 0) = _ := j0
 obtain ⟨l1, m1, b1, s1, i1, j1, h1, k1⟩ := P1 jo h0 (y := (v0 : Int)) ahw
 obtain ⟨v2, m2, b2, s2, i2, j2, h2, rq, k2⟩ := qd jo h1
 obtain ⟨l3, m3, b3, s3, i3, j3, h3, k3⟩ := JZ jo h2 (y := (v2 : Int)) ahw
 unfold gy iW
 simp only [i0, i1, i2, i3, j0, j1, j2, j3, sb]
 have nil : ∃ p ok, some (aN.mk [] [], false) = some (p, ok) ∧ some (aN.mk [] [], false) = some (p, ok) ∧ PB p ∧ 7 * zP p ≤ 50000000 := ⟨_, _, rfl, rfl, W3, by decide⟩
 rcases h3.2 with ⟨lE, IF⟩ | ⟨lE, IF⟩
 ·subst lE IF
  rw [if_neg ahx]
  by_cases hl : (m3 : Int) = (b.length : Int)
  ·rw [if_pos hl, if_pos hl]
   have q3 := k3 rfl
   have q2 := k2 q3.1
   have q1 := k1 q2.1
   have q0 := k0 q1.1
   have z1 := qc (z := zF) l1
   have z3 := qc (z := fun c : aw => c.aH.length + c.aE.length) l3
   have hp : PB ⟨l1, l3⟩ := ⟨by dsimp only; omega, by dsimp only; omega, q1.2.2, q3.2.2⟩
   obtain ⟨e1, e2⟩ := WV hp
   rw [e1, e2, sb]
   cases hP : XL ⟨l1, l3⟩ with
   | false => rw [if_neg ahx]; exact nil
   | true =>
    rw [if_pos rfl]
    refine ⟨_, _, rfl, rfl, hp, ?_⟩
    have hf := (L5 hp hP).2
    have hD : ∀ l : List au, (∀ x ∈ l, Tv x.bc = true) → zS zD l ≤ 2 * l.length := by
     intro l
     induction l with
     | nil => intro _; exact adV _
     | cons x l ih =>
      intro hx
      rw [qR]
      have h1 := ih (fun y hy => hx y (by simp [hy]))
      have h2 := W2 (hx x ahy)
      simp only [zD, As]; omega
    have hK : ∀ l : List aw, (∀ c ∈ l, ∀ x ∈ c.aH, Tv x.bc = true) → zS zK l ≤ 2 * zS (fun c : aw => c.aH.length + c.aE.length) l := by
     intro l
     induction l with
     | nil => intro _; exact adV _
     | cons x l ih =>
      intro hx
      rw [qR, qR]
      have h1 := ih (fun y hy => hx y (by simp [hy]))
      have h2 := hD x.aH (hx x ahy)
      simp only [zK]; omega
    have h5 := hK l3 hf
    have := h3.1
    have e1 := q1.2.1
    have e3 := q3.2.1
    unfold zP
    dsimp only
    omega
  ·rw [if_neg hl, if_neg hl]; exact nil
 ·subst lE IF
  rw [if_pos rfl, if_neg ahw]; exact nil
theorem KV {α : Type} (a : List α) {L : List α → Int → Option (List α)} (hs : ∀ (l : List α) (k : Nat) (h : k < a.length), l.length = a.length → L l (k : Int) = L (l.set k a[k]) ((k + 1 : Nat) : Int))
  (he : ∀ l, L l (a.length : Int) = some l) : ∀ (f k : Nat) (l : List α), a.length ≤ k + f → k ≤ a.length → l.length = a.length → (∀ j, j < k → l[j]? = a[j]?) → L l (k : Int) = some a
 | f, k, l, hf, hk, hl, hj => by
  by_cases hc : k < a.length
  ·obtain ⟨g, rfl⟩ : ∃ g, f = g + 1 := ⟨f - 1, by omega⟩
   rw [hs l k hc hl]
   refine KV a hs he g (k + 1) _ ahw ahw (by rw [aeZ]; exact hl) (fun j hj2 => ?_)
   rw [afo]
   by_cases h : k = j
   ·subst h
    rw [if_pos rfl, if_pos ahw, Is hc]
   ·rw [if_neg h]; exact hj j ahw
  ·have : k = a.length := by omega
   subst this
   rw [he l]
   congr 1
   refine List.ext_getElem? fun j => ?_
   by_cases h : j < a.length
   ·exact hj j h
   ·rw [aev ahw, aev ahw]
theorem mk_eq {α : Type} [Inhabited α] {b n : Nat} (hn : n ≤ 2000000) (hb : b ≤ 1000) : (xc b (n : Int) (n : Int) : Option (List α)) = some (List.replicate n default) := by
 unfold xc
 have : n * b ≤ 2000000 * 1000 := Nat.mul_le_mul hn hb
 rw [if_pos ⟨by omega, by omega, by omega, by simp only [aeh]; omega⟩]; rfl
theorem J0 (a : List UInt8) (hn : a.length ≤ 2000000) : gX a = some a := by
 unfold gX
 have e := KV a (L := iu a) (fun l k hk hl => by rw [iu, if_pos ahw, cC hk, sb, cC ahw, sb, ba ahw]; rfl) (fun l => by rw [iu, if_neg ahw]) a.length 0 (List.replicate a.length default) ahw ahw ahy (fun j h => absurd h ahw)
 rw [show ((0 : Nat) : Int) = 0 from rfl] at e
 rw [mk_eq hn ahw, sb, e]; rfl
theorem Mc (k : Int) : ((UInt8.ofNat (IntKind.u8.wrap k).toNat).toNat : Int) = IntKind.u8.wrap k := by
 have h : 0 ≤ IntKind.u8.wrap k ∧ IntKind.u8.wrap k < 256 := by rw [IntKind.wrap_u8]; omega
 rw [afv]
 omega
theorem R6 (l : List UInt8) (k : Nat) (h : k + 7 * l.length ≤ 100000000000000) : ∃ (k' : Nat) (l' : List UInt8), kl l (k : Int) = some ((k' : Int), l') ∧ k ≤ k' ∧ k' ≤ k + 7 * l.length ∧ l'.length = l.length ∧ vF l' (k : Int) = some (k' : Int) := by
 obtain ⟨k', l', e1, e2, e3, e4, e5⟩ := qS 100000000000000 (L := hJ) (H := jz) l (fun _ => 0) (fun x hx k hk => by
  have SH := qc (z := (fun _ => 0)) l
  have P8 := tc (z := (fun _ => 0)) hx
  refine ⟨k + 1, UInt8.ofNat (IntKind.u8.wrap (k : Int)).toNat, by omega, by omega, fun m i hi hm => ?_, fun m i hi hl hm => ?_⟩
  ·rw [hJ, if_pos ahw, hm, sb, ba ahw, ba ahw, aeh]
  ·rw [jz, if_pos ahw, hm, sb, if_pos (Mc _), ba ahw, ba ahw]) (fun m k => by rw [hJ, if_neg ahw]) (fun m k => by rw [jz, if_neg ahw]) k ail
 refine ⟨k', l', ?_, e2, by rw [zn] at e3; omega, e4, ?_⟩
 ·unfold kl; rw [e1, sb]
 ·unfold vF; rw [e5, sb]
theorem J1 (b : List UInt8) : fQ b = some true := by
 unfold fQ
 by_cases hb : (b.length : Int) > 1048576
 ·rw [if_pos hb]
 rw [if_neg hb]
 obtain ⟨p, ok, e1, e2, hP, hz⟩ := Mb (b := b) ahw
 obtain ⟨k, l', g1, g2, g3, g4, g5⟩ := R6 b 1 ahw
 obtain ⟨k2, p', f1, f2, f3, f4⟩ := L8 p 1 ahw
 replace g1 : kl b 1 = _ := g1
 replace f1 : iI p 1 = _ := f1
 replace f4 : gG p' 1 = _ := f4
 have n1 : ¬ (k : Int) < 0 := by omega
 have n2 : ¬ (k2 : Int) < 0 := by omega
 simp only [J0 b ahw, e1, e2, CK p hP, Ga b ahw, g1, f1, f4, n1, n2, sb, if_true, if_false]
theorem Dl (b : List UInt8) : ACall Tryz.prog 4 [sl 1 cB b] [] (fun res _ => res = .bool true) := (qi (J1 b)).mono (fun _ _ h => h.1)
end Go.Am
