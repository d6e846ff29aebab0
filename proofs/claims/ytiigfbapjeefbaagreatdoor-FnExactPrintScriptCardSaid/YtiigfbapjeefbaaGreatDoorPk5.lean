/- Texts of the proof, joined and shortened. -/
import Derived.Test.YtiigfbapjeefbaaGreatDoorPk4
import Derived.Test.YtiigfbapjeefbaaGreatDoorShelf
import Derived.WalkKit
import Derived.BigCall
set_option linter.unusedVariables false
set_option linter.unusedSimpArgs false
namespace Go.Am
open Go Go.RowKit Go.Proofs
mutual
def gB (a0 : ae) : Option (Int) :=
 (
 fe a0 0 0
 : Option (Int)) >>= fun y1 =>
 some (aS (y1 + 1))
partial_fixpoint
def fe (a0 : ae) (y5 : Int) (y6 : Int) : Option (Int) :=
 (if y6 < (a0.ah.length : Int) then
 idx a0.ah y6 >>= fun qK =>
 gB qK >>= fun o9 =>
 WY y5 o9 >>= fun xN =>
 fe a0 xN (aS (y6 + 1))
 else
 some y5)
partial_fixpoint
end
def ES (a0 : ae) (r : Int) : Prop := ACall Tryz.prog 30 [.agg a0.lit] [] (fun res h => res = .int .i64 r ∧ h = [])
inductive cO : ae → Int → Int → (Int) → Prop
 | mk (G30 : ae → Option (Int)) (aoY : ∀ a0 r, G30 a0 = some r → ES a0 r) (dC : ae → Int → Int → Option (Int)) (qm : ∀ a0 y5 y6 o, dC a0 y5 y6 = some o → cO a0 y5 y6 o) (a0 : ae) (y5 : Int) (y6 : Int) (o : Int) (h : (
 (if y6 < (a0.ah.length : Int) then
 idx a0.ah y6 >>= fun qK =>
 G30 qK >>= fun o9 =>
 WY y5 o9 >>= fun xN =>
 dC a0 xN (aS (y6 + 1))
 else
 some y5)
 ) = some o) : cO a0 y5 y6 o
theorem pa {motive : ae → Int → Int → (Int) → Prop} (step : ∀ (G30 : ae → Option (Int)) (aoY : ∀ a0 r, G30 a0 = some r → ES a0 r) (dC : ae → Int → Int → Option (Int)) (qm : ∀ a0 y5 y6 o, dC a0 y5 y6 = some o → cO a0 y5 y6 o) (a0 : ae) (y5 : Int) (y6 : Int) (o : Int) (h : (
 (if y6 < (a0.ah.length : Int) then
 idx a0.ah y6 >>= fun qK =>
 G30 qK >>= fun o9 =>
 WY y5 o9 >>= fun xN =>
 dC a0 xN (aS (y6 + 1))
 else
 some y5)
 ) = some o) (ih : ∀ a0 y5 y6 o, dC a0 y5 y6 = some o → motive a0 y5 y6 o), motive a0 y5 y6 o) : ∀ a0 y5 y6 o, cO a0 y5 y6 o → motive a0 y5 y6 o :=
 fun a0 y5 y6 o h => cO.rec (motive := fun a0 y5 y6 o _ => motive a0 y5 y6 o) step h
theorem tD : (∀ a0 r, gB a0 = some r → ES a0 r) ∧ (∀ a0 y5 y6 o, fe a0 y5 y6 = some o → cO a0 y5 y6 o) := by
 refine gB.mutual_partial_correctness ES cO ?_ ?_
 intro _ WZ a0 r h
 refine gq Tryz.func30 ?_
 refine .d (.d ?_)
 obtain ⟨o2, vL, vM⟩ := bd h
 replace h := vL
 refine .cut (fun σ η => ∃ y1, y1 = o2 ∧ σ = [(3, .int .i64 y1)] ∧ η = []) ?_ ?_
 refine .d ?_
 have W0 := WZ _ _ _ _ h
 refine le (pa (motive := fun p19 y5 y6 Iy => a0 = p19 → o2 = Iy → aG _ _ [(1, .aL 0 0 0 0), (3, .int .i64 y5), (4, .int .i64 y6)] [.row 0 4 1 29 (fun _ => a0.lit)]) ?_ a0 0 0 o2 W0 rfl rfl) (tk [0] ⟨.p, .i, .i, ⟨⟩⟩ ⟨(bZ rfl), ⟨⟩⟩)
 intro _ W1 _ _ p19 y5 y6 Iy h zA  Dc W2
 subst Dc
 subst W2
 refine aG.round (.d (.d ⟨rfl, ⟨rfl, _, rfl, (sD h (fun mo h => ?_) (fun mo h => ?_))⟩⟩))
 exact .d ⟨rfl, ⟨rfl, _, rfl, (bk h fun qK vN h => ⟨aA vN, _, (ax vN).trans (ae.au qK), (bk h fun o9 qL h => (aR (W1 _ _ qL) (bk h fun xN Dd h => (aR (aoZ Dd) (lg (zA _ _ _ _ h rfl rfl) (tk [0] ⟨.p, .i, .i, ⟨⟩⟩ ⟨(bZ rfl), ⟨⟩⟩))))))⟩)⟩⟩
 exact auT
 exact auz
 exact auF
theorem vO {a0 : ae} {r : Int} (h : gB a0 = some r) : ACall Tryz.prog 30 [.agg a0.lit] [] (fun res h => res = .int .i64 r ∧ h = []) := tD.1 a0 r h
mutual
def ia (a0 : ae) : Option (Int) :=
 (
 fZ a0 1 0
 : Option (Int)) >>= fun y1 =>
 some y1
partial_fixpoint
def fZ (a0 : ae) (y5 : Int) (y6 : Int) : Option (Int) :=
 (if y6 < (a0.ah.length : Int) then
 idx a0.ah y6 >>= fun qK =>
 ia qK >>= fun o9 =>
 fZ a0 (aS (y5 + o9)) (aS (y6 + 1))
 else
 some y5)
partial_fixpoint
end
def zB (a0 : ae) (r : Int) : Prop := ACall Tryz.prog 131 [.agg a0.lit] [] (fun res h => res = .int .i64 r ∧ h = [])
inductive dh : ae → Int → Int → (Int) → Prop
 | mk (Iz : ae → Option (Int)) (acM : ∀ a0 r, Iz a0 = some r → zB a0 r) (eo : ae → Int → Int → Option (Int)) (qM : ∀ a0 y5 y6 o, eo a0 y5 y6 = some o → dh a0 y5 y6 o) (a0 : ae) (y5 : Int) (y6 : Int) (o : Int) (h : (
 (if y6 < (a0.ah.length : Int) then
 idx a0.ah y6 >>= fun qK =>
 Iz qK >>= fun o9 =>
 eo a0 (aS (y5 + o9)) (aS (y6 + 1))
 else
 some y5)
 ) = some o) : dh a0 y5 y6 o
theorem qn {motive : ae → Int → Int → (Int) → Prop} (step : ∀ (Iz : ae → Option (Int)) (acM : ∀ a0 r, Iz a0 = some r → zB a0 r) (eo : ae → Int → Int → Option (Int)) (qM : ∀ a0 y5 y6 o, eo a0 y5 y6 = some o → dh a0 y5 y6 o) (a0 : ae) (y5 : Int) (y6 : Int) (o : Int) (h : (
 (if y6 < (a0.ah.length : Int) then
 idx a0.ah y6 >>= fun qK =>
 Iz qK >>= fun o9 =>
 eo a0 (aS (y5 + o9)) (aS (y6 + 1))
 else
 some y5)
 ) = some o) (ih : ∀ a0 y5 y6 o, eo a0 y5 y6 = some o → motive a0 y5 y6 o), motive a0 y5 y6 o) : ∀ a0 y5 y6 o, dh a0 y5 y6 o → motive a0 y5 y6 o :=
 fun a0 y5 y6 o h => dh.rec (motive := fun a0 y5 y6 o _ => motive a0 y5 y6 o) step h
theorem uW : (∀ a0 r, ia a0 = some r → zB a0 r) ∧ (∀ a0 y5 y6 o, fZ a0 y5 y6 = some o → dh a0 y5 y6 o) := by
 refine ia.mutual_partial_correctness zB dh ?_ ?_
 intro _ ao0 a0 r h
 refine gq Tryz.func131 ?_
 refine .d (.d ?_)
 obtain ⟨o2, vL, vM⟩ := bd h
 replace h := vL
 refine .cut (fun σ η => ∃ y1, y1 = o2 ∧ σ = [(3, .int .i64 y1)] ∧ η = []) ?_ ?_
 refine .d ⟨rfl, ⟨rfl, _, rfl, ?_⟩⟩
 have ao1 := ao0 _ _ _ _ h
 refine le (qn (motive := fun p17 y5 y6 o15 => a0 = p17 → o2 = o15 → aG _ _ [(3, .int .i64 y5), (7, sl 4 ae.cells a0.ah), (8, .int .i64 (a0.ah.length : Int)), (9, .int .i64 y6)] []) ?_ a0 1 0 o2 ao1 rfl rfl) (tk [] ⟨.i, .l, .i, .i, ⟨⟩⟩ ⟨⟩)
 intro _ W1 _ _ p17 y5 y6 o15 h zA  W3 W4
 subst W3
 subst W4
 refine aG.round (.d (.d (sD h (fun mo h => ?_) (fun mo h => ?_))))
 exact .d (.d (bk h fun qK vN h => ⟨aA vN, _, (ax vN).trans (ae.au qK), ⟨rfl, _, fun _ => [.int .i64 qK.ai, .int .i64 qK.aC, .str qK.aj, sl 4 ae.cells qK.ah], rfl, bI rfl, ⟨rfl, _, rfl, (bk h fun o9 qL h => (aR (W1 _ _ qL) (lg (zA _ _ _ _ h rfl rfl) (tk [] ⟨.i, .l, .i, .i, ⟨⟩⟩ ⟨⟩))))⟩⟩⟩))
 exact auT
 exact auz
 exact auF
theorem xQ {a0 : ae} {r : Int} (h : ia a0 = some r) : ACall Tryz.prog 131 [.agg a0.lit] [] (fun res h => res = .int .i64 r ∧ h = []) := uW.1 a0 r h
mutual
def gC (a0 : ae) : Option (Int) :=
 (
 ff a0 0 0
 : Option (Int)) >>= fun y1 =>
 some (aS (y1 + 1))
partial_fixpoint
def ff (a0 : ae) (y5 : Int) (y6 : Int) : Option (Int) :=
 (if y6 < (a0.ah.length : Int) then
 idx a0.ah y6 >>= fun qK =>
 gC qK >>= fun o9 =>
 W5 y5 o9 >>= fun xN =>
 ff a0 xN (aS (y6 + 1))
 else
 some y5)
partial_fixpoint
end
def zC (a0 : ae) (r : Int) : Prop := ACall Tryz.prog 132 [.agg a0.lit] [] (fun res h => res = .int .i64 r ∧ h = [])
inductive cP : ae → Int → Int → (Int) → Prop
 | mk (IA : ae → Option (Int)) (acN : ∀ a0 r, IA a0 = some r → zC a0 r) (dD : ae → Int → Int → Option (Int)) (qo : ∀ a0 y5 y6 o, dD a0 y5 y6 = some o → cP a0 y5 y6 o) (a0 : ae) (y5 : Int) (y6 : Int) (o : Int) (h : (
 (if y6 < (a0.ah.length : Int) then
 idx a0.ah y6 >>= fun qK =>
 IA qK >>= fun o9 =>
 W5 y5 o9 >>= fun xN =>
 dD a0 xN (aS (y6 + 1))
 else
 some y5)
 ) = some o) : cP a0 y5 y6 o
theorem pc {motive : ae → Int → Int → (Int) → Prop} (step : ∀ (IA : ae → Option (Int)) (acN : ∀ a0 r, IA a0 = some r → zC a0 r) (dD : ae → Int → Int → Option (Int)) (qo : ∀ a0 y5 y6 o, dD a0 y5 y6 = some o → cP a0 y5 y6 o) (a0 : ae) (y5 : Int) (y6 : Int) (o : Int) (h : (
 (if y6 < (a0.ah.length : Int) then
 idx a0.ah y6 >>= fun qK =>
 IA qK >>= fun o9 =>
 W5 y5 o9 >>= fun xN =>
 dD a0 xN (aS (y6 + 1))
 else
 some y5)
 ) = some o) (ih : ∀ a0 y5 y6 o, dD a0 y5 y6 = some o → motive a0 y5 y6 o), motive a0 y5 y6 o) : ∀ a0 y5 y6 o, cP a0 y5 y6 o → motive a0 y5 y6 o :=
 fun a0 y5 y6 o h => cP.rec (motive := fun a0 y5 y6 o _ => motive a0 y5 y6 o) step h
theorem tE : (∀ a0 r, gC a0 = some r → zC a0 r) ∧ (∀ a0 y5 y6 o, ff a0 y5 y6 = some o → cP a0 y5 y6 o) := by
 refine gC.mutual_partial_correctness zC cP ?_ ?_
 intro _ WZ a0 r h
 refine gq Tryz.func132 ?_
 refine .d (.d ?_)
 obtain ⟨o2, vL, vM⟩ := bd h
 replace h := vL
 refine .cut (fun σ η => ∃ y1, y1 = o2 ∧ σ = [(3, .int .i64 y1)] ∧ η = []) ?_ ?_
 refine .d ⟨rfl, ⟨rfl, _, rfl, ?_⟩⟩
 have W0 := WZ _ _ _ _ h
 refine le (pc (motive := fun p19 y5 y6 Iy => a0 = p19 → o2 = Iy → aG _ _ [(3, .int .i64 y5), (7, sl 4 ae.cells a0.ah), (8, .int .i64 (a0.ah.length : Int)), (9, .int .i64 y6)] []) ?_ a0 0 0 o2 W0 rfl rfl) (tk [] ⟨.i, .l, .i, .i, ⟨⟩⟩ ⟨⟩)
 intro _ W1 _ _ p19 y5 y6 Iy h zA  Dc W2
 subst Dc
 subst W2
 refine aG.round (.d (.d (sD h (fun mo h => ?_) (fun mo h => ?_))))
 exact .d (.d (bk h fun qK vN h => ⟨aA vN, _, (ax vN).trans (ae.au qK), ⟨rfl, _, fun _ => [.int .i64 qK.ai, .int .i64 qK.aC, .str qK.aj, sl 4 ae.cells qK.ah], rfl, bI rfl, ⟨rfl, _, rfl, (bk h fun o9 qL h => (aR (W1 _ _ qL) (bk h fun xN Dd h => (aR (ao2 Dd) (lg (zA _ _ _ _ h rfl rfl) (tk [] ⟨.i, .l, .i, .i, ⟨⟩⟩ ⟨⟩))))))⟩⟩⟩))
 exact auT
 exact auz
 exact auF
theorem vR {a0 : ae} {r : Int} (h : gC a0 = some r) : ACall Tryz.prog 132 [.agg a0.lit] [] (fun res h => res = .int .i64 r ∧ h = []) := tE.1 a0 r h
mutual
def jf (a0 : ae) (a1 : Int) : Option (Int) :=
 (
 gM a0 (aS (a1 - 1)) 0
 : Option (Int)) >>= fun y1 =>
 some y1
partial_fixpoint
def gM (a0 : ae) (y5 : Int) (y6 : Int) : Option (Int) :=
 (if y6 < (a0.ah.length : Int) then
 (if y5 ≥ 0 then
 idx a0.ah y6 >>= fun W6 =>
 jf W6 y5 >>= fun v14 =>
 gM a0 v14 (aS (y6 + 1))
 else
 some y5)
 else
 some y5)
partial_fixpoint
end
def zD (a0 : ae) (a1 : Int) (r : Int) : Prop := ACall Tryz.prog 145 [.agg a0.lit, .int .i64 a1] [] (fun res h => res = .int .i64 r ∧ h = [])
inductive dE : ae → Int → Int → (Int) → Prop
 | mk (ID : ae → Int → Option (Int)) (acO : ∀ a0 a1 r, ID a0 a1 = some r → zD a0 a1 r) (fg : ae → Int → Int → Option (Int)) (rR : ∀ a0 y5 y6 o, fg a0 y5 y6 = some o → dE a0 y5 y6 o) (a0 : ae) (y5 : Int) (y6 : Int) (o : Int) (h : (
 (if y6 < (a0.ah.length : Int) then
 (if y5 ≥ 0 then
 idx a0.ah y6 >>= fun W6 =>
 ID W6 y5 >>= fun v14 =>
 fg a0 v14 (aS (y6 + 1))
 else
 some y5)
 else
 some y5)
 ) = some o) : dE a0 y5 y6 o
theorem qN {motive : ae → Int → Int → (Int) → Prop} (step : ∀ (ID : ae → Int → Option (Int)) (acO : ∀ a0 a1 r, ID a0 a1 = some r → zD a0 a1 r) (fg : ae → Int → Int → Option (Int)) (rR : ∀ a0 y5 y6 o, fg a0 y5 y6 = some o → dE a0 y5 y6 o) (a0 : ae) (y5 : Int) (y6 : Int) (o : Int) (h : (
 (if y6 < (a0.ah.length : Int) then
 (if y5 ≥ 0 then
 idx a0.ah y6 >>= fun W6 =>
 ID W6 y5 >>= fun v14 =>
 fg a0 v14 (aS (y6 + 1))
 else
 some y5)
 else
 some y5)
 ) = some o) (ih : ∀ a0 y5 y6 o, fg a0 y5 y6 = some o → motive a0 y5 y6 o), motive a0 y5 y6 o) : ∀ a0 y5 y6 o, dE a0 y5 y6 o → motive a0 y5 y6 o :=
 fun a0 y5 y6 o h => dE.rec (motive := fun a0 y5 y6 o _ => motive a0 y5 y6 o) step h
theorem vU : (∀ a0 a1 r, jf a0 a1 = some r → zD a0 a1 r) ∧ (∀ a0 y5 y6 o, gM a0 y5 y6 = some o → dE a0 y5 y6 o) := by
 refine jf.mutual_partial_correctness zD dE ?_ ?_
 intro _ ao3 a0 a1 r h
 refine gq Tryz.func145 ?_
 refine .d (.d ?_)
 obtain ⟨o2, vL, vM⟩ := bd h
 replace h := vL
 refine .cut (fun σ η => ∃ y1, y1 = o2 ∧ σ = [(1, .int .i64 y1)] ∧ η = []) ?_ ?_
 refine .d ?_
 have ao4 := ao3 _ _ _ _ h
 refine le (qN (motive := fun p18 y5 y6 W7 => a0 = p18 → o2 = W7 → aG _ _ [(1, .int .i64 y5), (2, .aL 0 0 0 0), (5, .int .i64 y6)] [.row 0 4 1 29 (fun _ => a0.lit)]) ?_ a0 (aS (a1 - 1)) 0 o2 ao4 rfl rfl) (tk [0] ⟨.i, .p, .i, ⟨⟩⟩ ⟨(bZ rfl), ⟨⟩⟩)
 intro _ W1 _ _ p18 y5 y6 W7 h zA  W8 W9
 subst W8
 subst W9
 refine aG.round (.d (.d ⟨rfl, ⟨rfl, _, rfl, (sD h (fun mo h => ?_) (fun mo h => ?_))⟩⟩))
 refine .t (.t (sD h (fun rS h => ?_) (fun rS h => ?_)))
 exact .d ⟨rfl, ⟨rfl, _, rfl, (bk h fun W6 IF h => ⟨aA IF, _, (ax IF).trans (ae.au W6), (bk h fun v14 ao5 h => (aR (W1 _ _ _ ao5) (lg (zA _ _ _ _ h rfl rfl) (tk [0] ⟨.i, .p, .i, ⟨⟩⟩ ⟨(bZ rfl), ⟨⟩⟩))))⟩)⟩⟩
 exact auT
 exact .f (.f (.f (ct ⟨_, si h, rfl, rfl⟩ (tk [] ⟨.i, ⟨⟩⟩ ⟨⟩))))
 exact auz
 exact auF
theorem zE {a0 : ae} {a1 : Int} {r : Int} (h : jf a0 a1 = some r) : ACall Tryz.prog 145 [.agg a0.lit, .int .i64 a1] [] (fun res h => res = .int .i64 r ∧ h = []) := vU.1 a0 a1 r h
def jG (a0 : ae) : Option (Bool) :=
 ia a0 >>= fun v1 =>
 (if v1 ≤ 600 then
 gC a0 >>= fun v4 =>
 some (decide (v4 ≤ 30))
 else
 some false)
theorem vV {a0 : ae} {r : Bool} (h : jG a0 = some r) : ACall Tryz.prog 66 [.agg a0.lit] [] (fun res h => res = .bool r ∧ h = []) := by
 refine gq Tryz.func66 ?_
 unfold jG at h
 refine .d (.d ⟨rfl, _, rfl, (bk h fun v1 mq h => (aR (xQ mq) (sD h (fun oV h => ?_) (fun oV h => ?_))))⟩)
 exact ⟨rfl, _, rfl, (.t (bk h fun v4 vW h => (aR (vR vW) (.t (.t (eB h))))))⟩
 exact auY
def kj (a0 : ae) : Option (Bool) :=
 jf a0 600 >>= fun v1 =>
 (if v1 ≥ 0 then
 gB a0 >>= fun v4 =>
 some (decide (v4 ≤ 30))
 else
 some false)
theorem xR {a0 : ae} {r : Bool} (h : kj a0 = some r) : ACall Tryz.prog 74 [.agg a0.lit] [] (fun res h => res = .bool r ∧ h = []) := by
 refine gq Tryz.func74 ?_
 unfold kj at h
 refine .d (.d ⟨rfl, _, rfl, (bk h fun v1 mq h => (aR (zE mq) (sD h (fun oV h => ?_) (fun oV h => ?_))))⟩)
 exact ⟨rfl, _, rfl, (.t (bk h fun v4 vW h => (aR (vO vW) (.t (.t (eB h))))))⟩
 exact auY
set_option maxRecDepth 100000
def dW (a0 : List ae) (a1 : Bool) (Pa : Bool) (zF : Int) : Option ((Unit) ⊕ Bool) :=
 (if zF < (aS ((a0.length : Int) - 1)) then
 idx a0 zF >>= fun nr =>
 (
 (if nr.ai = 25 then
 some true
 else
 some Pa)
 : Option (Bool)) >>= fun Bk =>
 (if nr.ai = 24 then
 (if Bk = true then
 (if nr.ai = 25 then
 (if a1 = true then
 tA nr.aC 0 1 >>= fun vX =>
 (if vX = true then
 ck nr.aj >>= fun v168 =>
 (if v168 = true then
 (if (nr.ah.length : Int) > 0 then
 some (.inr false)
 else
 dW a0 a1 Bk (aS (zF + 1)))
 else
 some (.inr false))
 else
 some (.inr false))
 else
 some (.inr false))
 else
 some (.inr false))
 else
 tA nr.aC 0 1 >>= fun acP =>
 (if acP = true then
 ck nr.aj >>= fun v159 =>
 (if v159 = true then
 (if (nr.ah.length : Int) > 0 then
 some (.inr false)
 else
 dW a0 a1 Bk (aS (zF + 1)))
 else
 some (.inr false))
 else
 some (.inr false)))
 else
 (if nr.ai = 25 then
 (if a1 = true then
 tA nr.aC 0 1 >>= fun Bl =>
 (if Bl = true then
 ck nr.aj >>= fun acQ =>
 (if acQ = true then
 (if (nr.ah.length : Int) > 0 then
 some (.inr false)
 else
 dW a0 a1 Bk (aS (zF + 1)))
 else
 some (.inr false))
 else
 some (.inr false))
 else
 some (.inr false))
 else
 some (.inr false)))
 else
 some (.inl ()))
partial_fixpoint
mutual
def aQ (a0 : ae) : Option (Bool) :=
 cu a0 >>= fun (v1, v2) =>
 (if v1 = true then
 (if v2 = true then
 ((
 (
 (if a0.ai = 1 then
 some (a0.ai == 1)
 else
 (if a0.ai = 2 then
 some (a0.ai == 2)
 else
 (if a0.ai = 3 then
 some (a0.ai == 3)
 else
 some (a0.ai == 4))))
 : Option (Bool)) >>= fun b9 =>
 (if b9 = true then
 some (.inr ((a0.ah.length : Int) == 0))
 else
 (if a0.ai = 5 then
 ((
 jg a0 0
 : Option ((Unit) ⊕ ((Unit) ⊕ Bool))) >>= fun IG => match IG with
 | .inr r => some r
 | .inl _ =>
 some (.inr true)
 )
 else
 (
 (if a0.ai = 8 then
 some (a0.ai == 8)
 else
 some (a0.ai == 9))
 : Option (Bool)) >>= fun b46 =>
 (if b46 = true then
 (if (a0.ah.length : Int) = 1 then
 idx a0.ah 0 >>= fun II =>
 aQ II >>= fun Pb =>
 some (.inr Pb)
 else
 some (.inr false))
 else
 (
 (if a0.ai = 7 then
 some (a0.ai == 7)
 else
 (if a0.ai = 10 then
 some (a0.ai == 10)
 else
 (if a0.ai = 11 then
 some (a0.ai == 11)
 else
 (if a0.ai = 12 then
 some (a0.ai == 12)
 else
 some (a0.ai == 13)))))
 : Option (Bool)) >>= fun b57 =>
 (if b57 = true then
 (if (a0.ah.length : Int) = 2 then
 du a0.ah 0 >>= fun v67 =>
 some (.inr v67)
 else
 some (.inr false))
 else
 (if a0.ai = 14 then
 (if (a0.ah.length : Int) = 3 then
 du a0.ah 0 >>= fun v71 =>
 some (.inr v71)
 else
 some (.inr false))
 else
 (
 (if a0.ai = 15 then
 some (a0.ai == 15)
 else
 some (a0.ai == 16))
 : Option (Bool)) >>= fun b73 =>
 (if b73 = true then
 (if (a0.ah.length : Int) = 2 then
 idx a0.ah 0 >>= fun x80 =>
 iC x80 >>= fun R6 =>
 (if R6 = true then
 du a0.ah 0 >>= fun v85 =>
 some (.inr v85)
 else
 some (.inr false))
 else
 some (.inr false))
 else
 (if a0.ai = 17 then
 (if (a0.ah.length : Int) = 1 then
 idx a0.ah 0 >>= fun x89 =>
 (if x89.ai = 4 then
 idx a0.ah 0 >>= fun x92 =>
 aQ x92 >>= fun v94 =>
 some (.inr v94)
 else
 some (.inr false))
 else
 some (.inr false))
 else
 (
 (if a0.ai = 18 then
 some (a0.ai == 18)
 else
 (if a0.ai = 21 then
 some (a0.ai == 21)
 else
 some (a0.ai == 22)))
 : Option (Bool)) >>= fun b96 =>
 (if b96 = true then
 du a0.ah 0 >>= fun acR =>
 some (.inr acR)
 else
 (
 (if a0.ai = 19 then
 some (a0.ai == 19)
 else
 some (a0.ai == 20))
 : Option (Bool)) >>= fun IJ =>
 (if IJ = true then
 (if (a0.ah.length : Int) ≥ 1 then
 du a0.ah 0 >>= fun IK =>
 some (.inr IK)
 else
 some (.inr false))
 else
 (if a0.ai = 23 then
 hU a0.ah true >>= fun IL =>
 some (.inr IL)
 else
 some (.inl ())))))))))))
 : Option ((Unit) ⊕ Bool)) >>= fun o6 => match o6 with
 | .inr r => some r
 | .inl _ =>
 some false
 )
 else
 some false)
 else
 some false)
partial_fixpoint
def du (a0 : List ae) (a1 : Int) : Option (Bool) :=
 ((
 jh a0 a1
 : Option ((Unit) ⊕ Bool)) >>= fun IM => match IM with
 | .inr r => some r
 | .inl _ =>
 some true
 )
partial_fixpoint
def hU (a0 : List ae) (a1 : Bool) : Option (Bool) :=
 ((
 dW a0 a1 false 0
 : Option ((Unit) ⊕ Bool)) >>= fun IP => match IP with
 | .inr r => some r
 | .inl _ =>
 (if (aS ((a0.length : Int) - 1)) ≥ 0 then
 idx a0 (aS ((a0.length : Int) - 1)) >>= fun Xa =>
 a7 Xa >>= fun acS =>
 some acS
 else
 some false)
 )
partial_fixpoint
def a7 (a0 : ae) : Option (Bool) :=
 (if a0.ai = 48 then
 (if a0.aC = 0 then
 (if a0.aj = ([] : aq) then
 ((
 ik a0 0
 : Option ((Unit) ⊕ Bool)) >>= fun IQ => match IQ with
 | .inr r => some r
 | .inl _ =>
 some true
 )
 else
 some false)
 else
 some false)
 else
 some false)
partial_fixpoint
def cm (a0 : ae) : Option (Bool) :=
 cu a0 >>= fun (acT, acU) =>
 (if acT = true then
 (if acU = true then
 ((
 (
 (if a0.ai = 31 then
 some (a0.ai == 31)
 else
 (if a0.ai = 37 then
 some (a0.ai == 37)
 else
 (if a0.ai = 38 then
 some (a0.ai == 38)
 else
 (if a0.ai = 40 then
 some (a0.ai == 40)
 else
 some (a0.ai == 47)))))
 : Option (Bool)) >>= fun IU =>
 (if IU = true then
 some (.inr ((a0.ah.length : Int) == 0))
 else
 (
 (if a0.ai = 32 then
 some (a0.ai == 32)
 else
 (if a0.ai = 33 then
 some (a0.ai == 33)
 else
 some (a0.ai == 42)))
 : Option (Bool)) >>= fun IV =>
 (if IV = true then
 (if (a0.ah.length : Int) = 1 then
 idx a0.ah 0 >>= fun Xb =>
 aQ Xb >>= fun acV =>
 some (.inr acV)
 else
 some (.inr false))
 else
 (if a0.ai = 39 then
 (if (a0.ah.length : Int) ≤ 1 then
 du a0.ah 0 >>= fun acW =>
 some (.inr acW)
 else
 some (.inr false))
 else
 (if a0.ai = 41 then
 (if (a0.ah.length : Int) = 1 then
 idx a0.ah 0 >>= fun Xc =>
 iC Xc >>= fun acX =>
 (if acX = true then
 idx a0.ah 0 >>= fun Xd =>
 aQ Xd >>= fun IW =>
 some (.inr IW)
 else
 some (.inr false))
 else
 some (.inr false))
 else
 (if a0.ai = 34 then
 tA (a0.ah.length : Int) 2 3 >>= fun acY =>
 (if acY = true then
 idx a0.ah 0 >>= fun Xe =>
 aQ Xe >>= fun acZ =>
 (if acZ = true then
 idx a0.ah 1 >>= fun Xf =>
 a7 Xf >>= fun zG =>
 (if zG = true then
 idx a0.ah (aS ((a0.ah.length : Int) - 1)) >>= fun Xg =>
 a7 Xg >>= fun ac0 =>
 some (.inr ac0)
 else
 some (.inr false))
 else
 some (.inr false))
 else
 some (.inr false))
 else
 (if a0.ai = 35 then
 (if (a0.ah.length : Int) = 2 then
 idx a0.ah 0 >>= fun Xh =>
 aQ Xh >>= fun ac1 =>
 (if ac1 = true then
 idx a0.ah 1 >>= fun De =>
 a7 De >>= fun IZ =>
 some (.inr IZ)
 else
 some (.inr false))
 else
 some (.inr false))
 else
 (if a0.ai = 36 then
 tA (a0.ah.length : Int) 3 4 >>= fun ac2 =>
 (if ac2 = true then
 Ir a0.ah (aS ((a0.ah.length : Int) - 1)) >>= fun Pc =>
 du Pc 0 >>= fun ac3 =>
 (if ac3 = true then
 idx a0.ah 1 >>= fun ly =>
 (if ly.ai = 4 then
 idx a0.ah (aS ((a0.ah.length : Int) - 2)) >>= fun Xi =>
 (if Xi.ai = 4 then
 idx a0.ah (aS ((a0.ah.length : Int) - 1)) >>= fun Xj =>
 a7 Xj >>= fun uX =>
 some (.inr uX)
 else
 some (.inr false))
 else
 some (.inr false))
 else
 some (.inr false))
 else
 some (.inr false))
 else
 (if a0.ai = 46 then
 tA (a0.ah.length : Int) 1 2 >>= fun I3 =>
 (if I3 = true then
 du a0.ah 0 >>= fun ac4 =>
 (if ac4 = true then
 (if (a0.ah.length : Int) = 1 then
 some (.inr true)
 else
 idx a0.ah 0 >>= fun Xk =>
 some (.inr (Xk.ai == 4)))
 else
 some (.inr false))
 else
 some (.inr false))
 else
 (if a0.ai = 48 then
 a7 a0 >>= fun ac5 =>
 some (.inr ac5)
 else
 (if a0.ai = 43 then
 tA (a0.ah.length : Int) 2 3 >>= fun ac6 =>
 (if ac6 = true then
 idx a0.ah 0 >>= fun Xl =>
 a7 Xl >>= fun ac7 =>
 (if ac7 = true then
 ((
 di a0 1
 : Option ((Unit) ⊕ ((Unit) ⊕ Bool))) >>= fun I4 => match I4 with
 | .inr r => some r
 | .inl _ =>
 some (.inr true)
 )
 else
 some (.inr false))
 else
 some (.inr false))
 else
 some (.inl ())))))))))))
 : Option ((Unit) ⊕ Bool)) >>= fun Xm => match Xm with
 | .inr r => some r
 | .inl _ =>
 some false
 )
 else
 some false)
 else
 some false)
partial_fixpoint
def jg (a0 : ae) (lS : Int) : Option ((Unit) ⊕ ((Unit) ⊕ Bool)) :=
 (if lS < (a0.ah.length : Int) then
 idx a0.ah lS >>= fun qO =>
 (if qO.ai = 6 then
 (if qO.aC = 0 then
 (if qO.aj = ([] : aq) then
 tA (qO.ah.length : Int) 1 2 >>= fun xS =>
 (if xS = true then
 du qO.ah 0 >>= fun v38 =>
 (if v38 = true then
 jg a0 (aS (lS + 1))
 else
 some (.inr (.inr false)))
 else
 some (.inr (.inr false)))
 else
 some (.inr (.inr false)))
 else
 some (.inr (.inr false)))
 else
 some (.inr (.inr false)))
 else
 some (.inl ()))
partial_fixpoint
def jh (a0 : List ae) (iT : Int) : Option ((Unit) ⊕ Bool) :=
 (if iT < (a0.length : Int) then
 idx a0 iT >>= fun Df =>
 aQ Df >>= fun v131 =>
 (if v131 = true then
 jh a0 (aS (iT + 1))
 else
 some (.inr false))
 else
 some (.inl ()))
partial_fixpoint
def ik (a0 : ae) (iU : Int) : Option ((Unit) ⊕ Bool) :=
 (if iU < (a0.ah.length : Int) then
 idx a0.ah iU >>= fun Dg =>
 cm Dg >>= fun Gf =>
 (if Gf = true then
 ik a0 (aS (iU + 1))
 else
 some (.inr false))
 else
 some (.inl ()))
partial_fixpoint
def di (a0 : ae) (fy : Int) : Option ((Unit) ⊕ ((Unit) ⊕ Bool)) :=
 (if fy < (a0.ah.length : Int) then
 idx a0.ah fy >>= fun hI =>
 cu hI >>= fun (vY, Bm) =>
 (
 (if hI.ai = 44 then
 (if fy = 1 then
 (if (hI.ah.length : Int) = 2 then
 idx hI.ah 0 >>= fun Dh =>
 (if Dh.ai = 4 then
 idx hI.ah 0 >>= fun Di =>
 aQ Di >>= fun Gg =>
 (if Gg = true then
 idx hI.ah 1 >>= fun Dj =>
 a7 Dj >>= fun Gh =>
 some Gh
 else
 some false)
 else
 some false)
 else
 some false)
 else
 some false)
 else
 some false)
 : Option (Bool)) >>= fun xT =>
 (
 (if hI.ai = 45 then
 (if fy = (aS ((a0.ah.length : Int) - 1)) then
 (if (hI.ah.length : Int) = 1 then
 idx hI.ah 0 >>= fun Dk =>
 a7 Dk >>= fun Gi =>
 some Gi
 else
 some false)
 else
 some false)
 else
 some false)
 : Option (Bool)) >>= fun zH =>
 (if vY = true then
 (if Bm = true then
 (if xT = true then
 di a0 (aS (fy + 1))
 else
 (if zH = true then
 di a0 (aS (fy + 1))
 else
 some (.inr (.inr false))))
 else
 some (.inr (.inr false)))
 else
 some (.inr (.inr false)))
 else
 some (.inl ()))
partial_fixpoint
end
def yB (a0 : ae) (r : Bool) : Prop := ACall Tryz.prog 79 [.agg a0.lit] [] (fun res h => res = .bool r ∧ h = [])
def zI (a0 : List ae) (a1 : Int) (r : Bool) : Prop := ACall Tryz.prog 149 [sl 4 ae.cells a0, .int .i64 a1] [] (fun res h => res = .bool r ∧ h = [])
def R7 (a0 : List ae) (a1 : Bool) (r : Bool) : Prop := ACall Tryz.prog 77 [sl 4 ae.cells a0, .bool a1] [] (fun res h => res = .bool r ∧ h = [])
def ET (a0 : ae) (r : Bool) : Prop := ACall Tryz.prog 80 [.agg a0.lit] [] (fun res h => res = .bool r ∧ h = [])
def EU (a0 : ae) (r : Bool) : Prop := ACall Tryz.prog 76 [.agg a0.lit] [] (fun res h => res = .bool r ∧ h = [])
inductive dF : ae → Int → ((Unit) ⊕ ((Unit) ⊕ Bool)) → Prop
 | mk (I5 : (List ae) → Int → Option (Bool)) (ac8 : ∀ a0 a1 r, I5 a0 a1 = some r → zI a0 a1 r) (fh : ae → Int → Option ((Unit) ⊕ ((Unit) ⊕ Bool))) (rT : ∀ a0 lS o, fh a0 lS = some o → dF a0 lS o) (a0 : ae) (lS : Int) (o : (Unit) ⊕ ((Unit) ⊕ Bool)) (h : (
 (if lS < (a0.ah.length : Int) then
 idx a0.ah lS >>= fun qO =>
 (if qO.ai = 6 then
 (if qO.aC = 0 then
 (if qO.aj = ([] : aq) then
 tA (qO.ah.length : Int) 1 2 >>= fun xS =>
 (if xS = true then
 I5 qO.ah 0 >>= fun v38 =>
 (if v38 = true then
 fh a0 (aS (lS + 1))
 else
 some (.inr (.inr false)))
 else
 some (.inr (.inr false)))
 else
 some (.inr (.inr false)))
 else
 some (.inr (.inr false)))
 else
 some (.inr (.inr false)))
 else
 some (.inl ()))
 ) = some o) : dF a0 lS o
theorem qP {motive : ae → Int → ((Unit) ⊕ ((Unit) ⊕ Bool)) → Prop} (step : ∀ (I5 : (List ae) → Int → Option (Bool)) (ac8 : ∀ a0 a1 r, I5 a0 a1 = some r → zI a0 a1 r) (fh : ae → Int → Option ((Unit) ⊕ ((Unit) ⊕ Bool))) (rT : ∀ a0 lS o, fh a0 lS = some o → dF a0 lS o) (a0 : ae) (lS : Int) (o : (Unit) ⊕ ((Unit) ⊕ Bool)) (h : (
 (if lS < (a0.ah.length : Int) then
 idx a0.ah lS >>= fun qO =>
 (if qO.ai = 6 then
 (if qO.aC = 0 then
 (if qO.aj = ([] : aq) then
 tA (qO.ah.length : Int) 1 2 >>= fun xS =>
 (if xS = true then
 I5 qO.ah 0 >>= fun v38 =>
 (if v38 = true then
 fh a0 (aS (lS + 1))
 else
 some (.inr (.inr false)))
 else
 some (.inr (.inr false)))
 else
 some (.inr (.inr false)))
 else
 some (.inr (.inr false)))
 else
 some (.inr (.inr false)))
 else
 some (.inl ()))
 ) = some o) (ih : ∀ a0 lS o, fh a0 lS = some o → motive a0 lS o), motive a0 lS o) : ∀ a0 lS o, dF a0 lS o → motive a0 lS o :=
 fun a0 lS o h => dF.rec (motive := fun a0 lS o _ => motive a0 lS o) step h
inductive dG : (List ae) → Int → ((Unit) ⊕ Bool) → Prop
 | mk (I6 : ae → Option (Bool)) (Xn : ∀ a0 r, I6 a0 = some r → yB a0 r) (fm : (List ae) → Int → Option ((Unit) ⊕ Bool)) (rU : ∀ a0 iT o, fm a0 iT = some o → dG a0 iT o) (a0 : List ae) (iT : Int) (o : (Unit) ⊕ Bool) (h : (
 (if iT < (a0.length : Int) then
 idx a0 iT >>= fun Df =>
 I6 Df >>= fun v131 =>
 (if v131 = true then
 fm a0 (aS (iT + 1))
 else
 some (.inr false))
 else
 some (.inl ()))
 ) = some o) : dG a0 iT o
theorem qQ {motive : (List ae) → Int → ((Unit) ⊕ Bool) → Prop} (step : ∀ (I6 : ae → Option (Bool)) (Xn : ∀ a0 r, I6 a0 = some r → yB a0 r) (fm : (List ae) → Int → Option ((Unit) ⊕ Bool)) (rU : ∀ a0 iT o, fm a0 iT = some o → dG a0 iT o) (a0 : List ae) (iT : Int) (o : (Unit) ⊕ Bool) (h : (
 (if iT < (a0.length : Int) then
 idx a0 iT >>= fun Df =>
 I6 Df >>= fun v131 =>
 (if v131 = true then
 fm a0 (aS (iT + 1))
 else
 some (.inr false))
 else
 some (.inl ()))
 ) = some o) (ih : ∀ a0 iT o, fm a0 iT = some o → motive a0 iT o), motive a0 iT o) : ∀ a0 iT o, dG a0 iT o → motive a0 iT o :=
 fun a0 iT o h => dG.rec (motive := fun a0 iT o _ => motive a0 iT o) step h
inductive dj : ae → Int → ((Unit) ⊕ Bool) → Prop
 | mk (G76 : ae → Option (Bool)) (ao6 : ∀ a0 r, G76 a0 = some r → EU a0 r) (ep : ae → Int → Option ((Unit) ⊕ Bool)) (qR : ∀ a0 iU o, ep a0 iU = some o → dj a0 iU o) (a0 : ae) (iU : Int) (o : (Unit) ⊕ Bool) (h : (
 (if iU < (a0.ah.length : Int) then
 idx a0.ah iU >>= fun Dg =>
 G76 Dg >>= fun Gf =>
 (if Gf = true then
 ep a0 (aS (iU + 1))
 else
 some (.inr false))
 else
 some (.inl ()))
 ) = some o) : dj a0 iU o
theorem qp {motive : ae → Int → ((Unit) ⊕ Bool) → Prop} (step : ∀ (G76 : ae → Option (Bool)) (ao6 : ∀ a0 r, G76 a0 = some r → EU a0 r) (ep : ae → Int → Option ((Unit) ⊕ Bool)) (qR : ∀ a0 iU o, ep a0 iU = some o → dj a0 iU o) (a0 : ae) (iU : Int) (o : (Unit) ⊕ Bool) (h : (
 (if iU < (a0.ah.length : Int) then
 idx a0.ah iU >>= fun Dg =>
 G76 Dg >>= fun Gf =>
 (if Gf = true then
 ep a0 (aS (iU + 1))
 else
 some (.inr false))
 else
 some (.inl ()))
 ) = some o) (ih : ∀ a0 iU o, ep a0 iU = some o → motive a0 iU o), motive a0 iU o) : ∀ a0 iU o, dj a0 iU o → motive a0 iU o :=
 fun a0 iU o h => dj.rec (motive := fun a0 iU o _ => motive a0 iU o) step h
inductive dH : ae → Int → ((Unit) ⊕ ((Unit) ⊕ Bool)) → Prop
 | mk (I6 : ae → Option (Bool)) (Xn : ∀ a0 r, I6 a0 = some r → yB a0 r) (Xo : ae → Option (Bool)) (ao7 : ∀ a0 r, Xo a0 = some r → ET a0 r) (da : ae → Int → Option ((Unit) ⊕ ((Unit) ⊕ Bool))) (rV : ∀ a0 fy o, da a0 fy = some o → dH a0 fy o) (a0 : ae) (fy : Int) (o : (Unit) ⊕ ((Unit) ⊕ Bool)) (h : (
 (if fy < (a0.ah.length : Int) then
 idx a0.ah fy >>= fun hI =>
 cu hI >>= fun (vY, Bm) =>
 (
 (if hI.ai = 44 then
 (if fy = 1 then
 (if (hI.ah.length : Int) = 2 then
 idx hI.ah 0 >>= fun Dh =>
 (if Dh.ai = 4 then
 idx hI.ah 0 >>= fun Di =>
 I6 Di >>= fun Gg =>
 (if Gg = true then
 idx hI.ah 1 >>= fun Dj =>
 Xo Dj >>= fun Gh =>
 some Gh
 else
 some false)
 else
 some false)
 else
 some false)
 else
 some false)
 else
 some false)
 : Option (Bool)) >>= fun xT =>
 (
 (if hI.ai = 45 then
 (if fy = (aS ((a0.ah.length : Int) - 1)) then
 (if (hI.ah.length : Int) = 1 then
 idx hI.ah 0 >>= fun Dk =>
 Xo Dk >>= fun Gi =>
 some Gi
 else
 some false)
 else
 some false)
 else
 some false)
 : Option (Bool)) >>= fun zH =>
 (if vY = true then
 (if Bm = true then
 (if xT = true then
 da a0 (aS (fy + 1))
 else
 (if zH = true then
 da a0 (aS (fy + 1))
 else
 some (.inr (.inr false))))
 else
 some (.inr (.inr false)))
 else
 some (.inr (.inr false)))
 else
 some (.inl ()))
 ) = some o) : dH a0 fy o
theorem qS {motive : ae → Int → ((Unit) ⊕ ((Unit) ⊕ Bool)) → Prop} (step : ∀ (I6 : ae → Option (Bool)) (Xn : ∀ a0 r, I6 a0 = some r → yB a0 r) (Xo : ae → Option (Bool)) (ao7 : ∀ a0 r, Xo a0 = some r → ET a0 r) (da : ae → Int → Option ((Unit) ⊕ ((Unit) ⊕ Bool))) (rV : ∀ a0 fy o, da a0 fy = some o → dH a0 fy o) (a0 : ae) (fy : Int) (o : (Unit) ⊕ ((Unit) ⊕ Bool)) (h : (
 (if fy < (a0.ah.length : Int) then
 idx a0.ah fy >>= fun hI =>
 cu hI >>= fun (vY, Bm) =>
 (
 (if hI.ai = 44 then
 (if fy = 1 then
 (if (hI.ah.length : Int) = 2 then
 idx hI.ah 0 >>= fun Dh =>
 (if Dh.ai = 4 then
 idx hI.ah 0 >>= fun Di =>
 I6 Di >>= fun Gg =>
 (if Gg = true then
 idx hI.ah 1 >>= fun Dj =>
 Xo Dj >>= fun Gh =>
 some Gh
 else
 some false)
 else
 some false)
 else
 some false)
 else
 some false)
 else
 some false)
 : Option (Bool)) >>= fun xT =>
 (
 (if hI.ai = 45 then
 (if fy = (aS ((a0.ah.length : Int) - 1)) then
 (if (hI.ah.length : Int) = 1 then
 idx hI.ah 0 >>= fun Dk =>
 Xo Dk >>= fun Gi =>
 some Gi
 else
 some false)
 else
 some false)
 else
 some false)
 : Option (Bool)) >>= fun zH =>
 (if vY = true then
 (if Bm = true then
 (if xT = true then
 da a0 (aS (fy + 1))
 else
 (if zH = true then
 da a0 (aS (fy + 1))
 else
 some (.inr (.inr false))))
 else
 some (.inr (.inr false)))
 else
 some (.inr (.inr false)))
 else
 some (.inl ()))
 ) = some o) (ih : ∀ a0 fy o, da a0 fy = some o → motive a0 fy o), motive a0 fy o) : ∀ a0 fy o, dH a0 fy o → motive a0 fy o :=
 fun a0 fy o h => dH.rec (motive := fun a0 fy o _ => motive a0 fy o) step h
theorem lT : (∀ a0 r, aQ a0 = some r → yB a0 r) ∧ (∀ a0 a1 r, hU a0 a1 = some r → R7 a0 a1 r) ∧ (∀ a0 r, a7 a0 = some r → ET a0 r) ∧ (∀ a0 iU o, ik a0 iU = some o → dj a0 iU o) ∧ (∀ a0 r, cm a0 = some r → EU a0 r) ∧ (∀ a0 fy o, di a0 fy = some o → dH a0 fy o) ∧ (∀ a0 a1 r, du a0 a1 = some r → zI a0 a1 r) ∧ (∀ a0 iT o, jh a0 iT = some o → dG a0 iT o) ∧ (∀ a0 lS o, jg a0 lS = some o → dF a0 lS o) := by
 refine aQ.mutual_partial_correctness yB R7 ET dj EU dH zI dG dF ?_ ?_ ?_ ?_ ?_ ?_ ?_ ?_ ?_
 intro _ _ _ _ wa ac9 nV ao8 a0 r h
 refine gq Tryz.func79 ?_
 refine .d (.d ⟨rfl, _, rfl, ?_⟩)
 obtain ⟨⟨v1, v2⟩, I7, h⟩ := bd h
 refine aR (ji I7) (.d ⟨rfl, ⟨rfl, _, rfl, (.d (.d (jV h (fun Bb h => ?_) (fun Bb h => ?_))))⟩⟩)
 exact .t (.t (.t (.d (eB h))))
 refine .f (.f (jV h (fun Bc h => ?_) (fun Bc h => ?_)))
 exact auL
 obtain ⟨o6, ho7, uB⟩ := bd h
 replace h := ho7
 refine .cut (fun σ η => .inl () = o6 ∧ σ = [] ∧ η = []) ?_ ?_
 refine .d ⟨rfl, ⟨rfl, _, rfl, ?_⟩⟩
 obtain ⟨Xp, I8, I9⟩ := bd h
 replace h := I8
 refine .cut (fun σ η => ∃ b9, b9 = Xp ∧ σ = [(1, .aL 0 0 0 0), (5, .int .i64 (a0.ah.length : Int)), (23, .int .i64 a0.ai), (24, .bool b9)] ∧ η = [.row 0 4 1 29 (fun _ => a0.lit)]) ?_ ?_
 refine .d (sE h (fun rW h => ?_) (fun rW h => ?_))
 exact auH
 refine .d (sE h (fun uY h => ?_) (fun uY h => ?_))
 exact auH
 refine .d (sE h (fun lI h => ?_) (fun lI h => ?_))
 exact auH
 exact auH
 rintro _ _ ⟨b9, rfl, rfl, rfl⟩
 replace h := I9
 refine sV h (fun oN h => ?_) (fun oN h => ?_)
 refine .d ?_
 exact aus
 refine .d (sE h (fun rX h => ?_) (fun rX h => ?_))
 obtain ⟨IG, ao9, Gj⟩ := bd h
 replace h := ao9
 refine .cut (fun σ η => .inl () = IG ∧ σ = [] ∧ η = []) ?_ ?_
 refine .d ?_
 have apa := ao8 _ _ _ h
 refine le (qP (motive := fun p43 lS o41 => a0 = p43 → IG = o41 → aG _ _ [(1, .aL 0 0 0 0), (5, .int .i64 (a0.ah.length : Int)), (6, .int .i64 lS)] [.row 0 4 1 29 (fun _ => a0.lit)]) ?_ a0 0 IG apa rfl rfl) (tk [0] ⟨.p, .i, .i, ⟨⟩⟩ ⟨(bZ rfl), ⟨⟩⟩)
 intro _ apb _ _ p43 lS o41 h Dl  Xq Xr
 subst Xq
 subst Xr
 refine aG.round (.d (.d (sD h (fun zJ h => ?_) (fun zJ h => ?_))))
 refine .d (.d ⟨rfl, ⟨rfl, _, rfl, (bk h fun qO tF h => ⟨aA tF, _, (ax tF).trans (ae.au qO), ⟨rfl, _, fun _ => [.int .i64 qO.ai, .int .i64 qO.aC, .str qO.aj, sl 4 ae.cells qO.ah], rfl, bI rfl, (.d ⟨rfl, ⟨rfl, _, rfl, (sN h (fun zK h => ?_) (fun zK h => ?_))⟩⟩)⟩⟩)⟩⟩)
 refine .t (.t (.t (.t (.t (.t (.t (.t (.t (.t (.t (.t (.t (.t (.t ?_))))))))))))))
 refine .t (.t (.t (.t (.d ?_))))
 obtain rfl := si h
 replace h := Gj
 exact aus
 refine ⟨rfl, (.f ⟨rfl, _, rfl, (.f (.f (sN h (fun Dm h => ?_) (fun Dm h => ?_))))⟩)⟩
 refine .t (.t (.t (.t (.t (.t (.t (.t (.t (.t (.t (.t (.t (.t (.t ?_))))))))))))))
 refine .d ?_
 obtain rfl := si h
 replace h := Gj
 exact aus
 refine ⟨rfl, (.f ⟨rfl, _, rfl, (.f (.f (Pd h (fun wc h => ?_) (fun wc h => ?_))))⟩)⟩
 refine .t (.t (.t (.t (.t (.t (.t (.t (.t (.t (.t (.d ?_)))))))))))
 obtain rfl := si h
 replace h := Gj
 exact aus
 refine ⟨rfl, (.f ⟨rfl, _, rfl, (.f (.f (bk h fun xS Dn h => (aR (ns Dn) (.f (.f (jV h (fun zL h => ?_) (fun zL h => ?_))))))))⟩)⟩
 refine .t (.t (.t (.t (.t (.d ?_)))))
 obtain rfl := si h
 replace h := Gj
 exact aus
 refine ⟨rfl, (.f ⟨rfl, _, rfl, (.f (bk h fun v38 apc h => (aR (apb _ _ _ apc) (.f (.f (jV h (fun Ja h => ?_) (fun Ja h => ?_)))))))⟩)⟩
 refine .d ?_
 obtain rfl := si h
 replace h := Gj
 exact aus
 exact lg (Dl _ _ _ h rfl rfl) (tk [0] ⟨.p, .i, .i, ⟨⟩⟩ ⟨(bZ rfl), ⟨⟩⟩)
 exact auK
 rintro _ _ ⟨rfl, rfl, rfl⟩
 replace h := Gj
 refine .d ?_
 exact aus
 obtain ⟨o47, apd, ape⟩ := bd h
 replace h := apd
 refine .cut (fun σ η => ∃ b46, b46 = o47 ∧ σ = [(1, .aL 0 0 0 0), (5, .int .i64 (a0.ah.length : Int)), (23, .int .i64 a0.ai), (69, .bool b46)] ∧ η = [.row 0 4 1 29 (fun _ => a0.lit)]) ?_ ?_
 refine .d (sE h (fun apf h => ?_) (fun apf h => ?_))
 exact auH
 exact auH
 rintro _ _ ⟨b46, rfl, rfl, rfl⟩
 replace h := ape
 refine sV h (fun Jb h => ?_) (fun Jb h => ?_)
 refine .d (sE h (fun Xs h => ?_) (fun Xs h => ?_))
 refine ⟨rfl, (.t ⟨rfl, _, rfl, (.t (bk h fun II Jc h => ⟨aA Jc, _, (ax Jc).trans (ae.au II), (.t (.t (bk h fun Pb Xt h => (aR (wa _ _ Xt) (.t ?_)))))⟩))⟩)⟩
 exact aus
 refine .f (.f (.f (.f (.f ?_))))
 exact aus
 obtain ⟨o58, apg, aph⟩ := bd h
 replace h := apg
 refine .cut (fun σ η => ∃ b57, b57 = o58 ∧ σ = [(1, .aL 0 0 0 0), (5, .int .i64 (a0.ah.length : Int)), (23, .int .i64 a0.ai), (81, .bool b57)] ∧ η = [.row 0 4 1 29 (fun _ => a0.lit)]) ?_ ?_
 refine .d (sE h (fun Jd h => ?_) (fun Jd h => ?_))
 exact auH
 refine .d (sE h (fun Je h => ?_) (fun Je h => ?_))
 exact auH
 refine .d (sE h (fun Xu h => ?_) (fun Xu h => ?_))
 exact auH
 refine .d (sE h (fun Xv h => ?_) (fun Xv h => ?_))
 exact auH
 exact auH
 rintro _ _ ⟨b57, rfl, rfl, rfl⟩
 replace h := aph
 refine sV h (fun Jf h => ?_) (fun Jf h => ?_)
 refine .d (sE h (fun Xw h => ?_) (fun Xw h => ?_))
 refine ⟨rfl, (.t ⟨rfl, _, rfl, (.t (bk h fun v67 Xx h => (aR (nV _ _ _ Xx) (.t ?_))))⟩)⟩
 exact aus
 refine .f (.f (.f ?_))
 exact aus
 refine .d (sE h (fun Xy h => ?_) (fun Xy h => ?_))
 refine .d (sE h (fun Jg h => ?_) (fun Jg h => ?_))
 refine ⟨rfl, (.t ⟨rfl, _, rfl, (.t (bk h fun v71 Xz h => (aR (nV _ _ _ Xz) (.t ?_))))⟩)⟩
 exact aus
 refine .f (.f (.f ?_))
 exact aus
 obtain ⟨o74, api, apj⟩ := bd h
 replace h := api
 refine .cut (fun σ η => ∃ b73, b73 = o74 ∧ σ = [(1, .aL 0 0 0 0), (5, .int .i64 (a0.ah.length : Int)), (23, .int .i64 a0.ai), (103, .bool b73)] ∧ η = [.row 0 4 1 29 (fun _ => a0.lit)]) ?_ ?_
 refine .d (sE h (fun XA h => ?_) (fun XA h => ?_))
 exact auH
 exact auH
 rintro _ _ ⟨b73, rfl, rfl, rfl⟩
 replace h := apj
 refine sV h (fun apk h => ?_) (fun apk h => ?_)
 refine .d (sE h (fun XB h => ?_) (fun XB h => ?_))
 refine ⟨rfl, (.t ⟨rfl, _, rfl, (.t (bk h fun x80 ada h => ⟨aA ada, _, (ax ada).trans (ae.au x80), (.t (.t (bk h fun R6 Jh h => (aR (pd Jh) (.t (sV h (fun XC h => ?_) (fun XC h => ?_)))))))⟩))⟩)⟩
 refine ⟨rfl, (.t ⟨rfl, _, rfl, (.t (bk h fun v85 XD h => (aR (nV _ _ _ XD) (.t ?_))))⟩)⟩
 exact aus
 refine .f (.f (.f ?_))
 exact aus
 refine .f (.f (.f (.f (.f (.f (.f (.f (.f ?_))))))))
 exact aus
 refine .d (sE h (fun XE h => ?_) (fun XE h => ?_))
 refine .d (sE h (fun XF h => ?_) (fun XF h => ?_))
 refine ⟨rfl, (.t ⟨rfl, _, rfl, (.t (bk h fun x89 adb h => ⟨aA adb, _, (ax adb).trans (ae.au x89), (.t (.t (.t (.t (sE h (fun apl h => ?_) (fun apl h => ?_))))))⟩))⟩)⟩
 refine ⟨rfl, (.t ⟨rfl, _, rfl, (.t (bk h fun x92 ade h => ⟨aA ade, _, (ax ade).trans (ae.au x92), (.t (.t (bk h fun v94 apm h => (aR (wa _ _ apm) (.t ?_)))))⟩))⟩)⟩
 exact aus
 refine .f (.f (.f (.f (.f ?_))))
 exact aus
 refine .f (.f (.f (.f (.f (.f (.f (.f (.f (.f (.f (.f ?_)))))))))))
 exact aus
 obtain ⟨o97, apn, apo⟩ := bd h
 replace h := apn
 refine .cut (fun σ η => ∃ b96, b96 = o97 ∧ σ = [(1, .aL 0 0 0 0), (5, .int .i64 (a0.ah.length : Int)), (23, .int .i64 a0.ai), (139, .bool b96)] ∧ η = [.row 0 4 1 29 (fun _ => a0.lit)]) ?_ ?_
 refine .d (sE h (fun adf h => ?_) (fun adf h => ?_))
 exact auH
 refine .d (sE h (fun Ji h => ?_) (fun Ji h => ?_))
 exact auH
 exact auH
 rintro _ _ ⟨b96, rfl, rfl, rfl⟩
 replace h := apo
 refine sV h (fun Jj h => ?_) (fun Jj h => ?_)
 refine .d ⟨rfl, ⟨rfl, _, rfl, (bk h fun acR adg h => (aR (nV _ _ _ adg) ?_))⟩⟩
 exact aus
 obtain ⟨apq, adh, adi⟩ := bd h
 replace h := adh
 refine .cut (fun σ η => ∃ IJ, IJ = apq ∧ σ = [(1, .aL 0 0 0 0), (5, .int .i64 (a0.ah.length : Int)), (23, .int .i64 a0.ai), (146, .bool IJ)] ∧ η = [.row 0 4 1 29 (fun _ => a0.lit)]) ?_ ?_
 refine .d (sE h (fun Bn h => ?_) (fun Bn h => ?_))
 exact auH
 exact auH
 rintro _ _ ⟨IJ, rfl, rfl, rfl⟩
 replace h := adi
 refine sV h (fun adj h => ?_) (fun adj h => ?_)
 refine .d (sD h (fun adk h => ?_) (fun adk h => ?_))
 refine ⟨rfl, (.t ⟨rfl, _, rfl, (.t (bk h fun IK Jk h => (aR (nV _ _ _ Jk) (.t ?_))))⟩)⟩
 exact aus
 refine .f (.f (.f ?_))
 exact aus
 refine .d (sE h (fun Jl h => ?_) (fun Jl h => ?_))
 refine .d ⟨rfl, ⟨rfl, _, rfl, (bk h fun IL Jm h => (aR (ac9 _ _ _ Jm) ?_))⟩⟩
 exact aus
 exact auK
 rintro _ _ ⟨rfl, rfl, rfl⟩
 replace h := uB
 exact auL
 intro _ uC a0 a1 r h
 refine gq Tryz.func77 ?_
 refine .d (.d (.d ?_))
 obtain ⟨IP, adl, mz⟩ := bd h
 replace h := adl
 refine .cut (fun σ η => .inl () = IP ∧ σ = [(0, sl 4 ae.cells a0), (6, .int .i64 (aS ((a0.length : Int) - 1)))] ∧ η = []) ?_ ?_
 refine .d ?_
 refine le (dW.partial_correctness a0 a1 (motive := fun Pa zF adm => IP = adm → aG _ _ [(0, sl 4 ae.cells a0), (1, .bool a1), (5, .bool Pa), (6, .int .i64 (aS ((a0.length : Int) - 1))), (7, .int .i64 zF)] []) ?_ false 0 IP h rfl) (tk [] ⟨.l, .b, .b, .i, .i, ⟨⟩⟩ ⟨⟩)
 intro asu Jn Pa zF adm h adn
 subst adn
 refine aG.round (.d (.d (sD h (fun Bo h => ?_) (fun Bo h => ?_))))
 refine .d (.d (bk h fun nr R8 h => ⟨aA R8, _, (ax R8).trans (ae.au nr), ⟨rfl, _, fun _ => [.int .i64 nr.ai, .int .i64 nr.aC, .str nr.aj, sl 4 ae.cells nr.ah], rfl, bI rfl, ?_⟩⟩))
 obtain ⟨apr, ado, adp⟩ := bd h
 replace h := ado
 refine .cut (fun σ η => ∃ Bk, Bk = apr ∧ σ = [(0, sl 4 ae.cells a0), (1, .bool a1), (5, .bool Bk), (6, .int .i64 (aS ((a0.length : Int) - 1))), (7, .int .i64 zF), (8, .aL 0 0 0 0)] ∧ η = [.row 0 4 1 29 (fun _ => nr.lit)]) ?_ ?_
 refine .d ⟨rfl, ⟨rfl, _, rfl, (sE h (fun Jo h => ?_) (fun Jo h => ?_))⟩⟩
 exact ct ⟨_, si h, rfl, rfl⟩ (tk [0] ⟨.l, .b, .b, .i, .i, .p, ⟨⟩⟩ ⟨(bZ rfl), ⟨⟩⟩)
 exact ct ⟨_, si h, rfl, rfl⟩ (tk [0] ⟨.l, .b, .b, .i, .i, .p, ⟨⟩⟩ ⟨(bZ rfl), ⟨⟩⟩)
 rintro _ _ ⟨Bk, rfl, rfl, rfl⟩
 replace h := adp
 refine .d ⟨rfl, ⟨rfl, _, rfl, (sE h (fun Bp h => ?_) (fun Bp h => ?_))⟩⟩
 refine .t (.t (jV h (fun adq h => ?_) (fun adq h => ?_)))
 refine .t (.t (.t (.t (.t (.f ⟨rfl, (.f ⟨rfl, _, rfl, (.f (bk h fun acP ads h => (aR (ns ads) (.f (.f (jV h (fun adt h => ?_) (fun adt h => ?_)))))))⟩)⟩)))))
 refine .t (.t (.t (.t (.t (.t (.t (.t (.t (.t (.d ?_))))))))))
 exact auw
 refine ⟨rfl, (.f ⟨rfl, _, rfl, (.f (bk h fun v159 Jp h => (aR (dV Jp) (.f (.f (jV h (fun adu h => ?_) (fun adu h => ?_)))))))⟩)⟩
 refine .t (.t (.t (.t (.t (.d ?_)))))
 exact auw
 refine ⟨rfl, (.f ⟨rfl, _, rfl, (.f (.f (.f (sD h (fun Bq h => ?_) (fun Bq h => ?_)))))⟩)⟩
 refine .d ?_
 exact auw
 exact ava
 refine ⟨rfl, (.f ⟨rfl, _, rfl, (.f (.f (sE h (fun Jq h => ?_) (fun Jq h => ?_))))⟩)⟩
 refine .f (.t (.f (jV h (fun Jr h => ?_) (fun Jr h => ?_))))
 refine .t (.t (.t (.t (.t (.t (.t (.t (.t (.t (.t (.t (.t (.t (.t ?_))))))))))))))
 refine .d ?_
 exact auw
 refine ⟨rfl, (.f ⟨rfl, _, rfl, (.f (bk h fun vX Br h => (aR (ns Br) (.f (.f (jV h (fun adv h => ?_) (fun adv h => ?_)))))))⟩)⟩
 refine .t (.t (.t (.t (.t (.t (.t (.t (.t (.t (.d ?_))))))))))
 exact auw
 refine ⟨rfl, (.f ⟨rfl, _, rfl, (.f (bk h fun v168 Bs h => (aR (dV Bs) (.f (.f (jV h (fun adw h => ?_) (fun adw h => ?_)))))))⟩)⟩
 refine .t (.t (.t (.t (.t (.d ?_)))))
 exact auw
 refine ⟨rfl, (.f ⟨rfl, _, rfl, (.f (.f (.f (sD h (fun adx h => ?_) (fun adx h => ?_)))))⟩)⟩
 refine .d ?_
 exact auw
 exact ava
 refine .f (.f (.f (.t (.t (.t (.t (.t (.t (.t (.t (.t (.t (.t (.t ?_))))))))))))))
 refine .t (.t (.t (.t (.d ?_))))
 exact auw
 refine .f (.f (.f ⟨rfl, (.f ⟨rfl, _, rfl, (.f (.f (sE h (fun Js h => ?_) (fun Js h => ?_))))⟩)⟩))
 refine .f (.t (.f (jV h (fun ady h => ?_) (fun ady h => ?_))))
 refine .t (.t (.t (.t (.t (.t (.t (.t (.t (.t (.t (.t (.t (.t (.t ?_))))))))))))))
 refine .d ?_
 exact auw
 refine ⟨rfl, (.f ⟨rfl, _, rfl, (.f (bk h fun Bl Jt h => (aR (ns Jt) (.f (.f (jV h (fun adz h => ?_) (fun adz h => ?_)))))))⟩)⟩
 refine .t (.t (.t (.t (.t (.t (.t (.t (.t (.t (.d ?_))))))))))
 exact auw
 refine ⟨rfl, (.f ⟨rfl, _, rfl, (.f (bk h fun acQ adA h => (aR (dV adA) (.f (.f (jV h (fun adB h => ?_) (fun adB h => ?_)))))))⟩)⟩
 refine .t (.t (.t (.t (.t (.d ?_)))))
 exact auw
 refine ⟨rfl, (.f ⟨rfl, _, rfl, (.f (.f (.f (sD h (fun Bt h => ?_) (fun Bt h => ?_)))))⟩)⟩
 refine .d ?_
 exact auw
 exact ava
 refine .f (.f (.f (.t (.t (.t (.t (.t (.t (.t (.t (.t (.t (.t (.t ?_))))))))))))))
 refine .t (.t (.t (.t (.d ?_))))
 exact auw
 exact ct ⟨si h, rfl, rfl⟩ (tk [] ⟨.l, .i, ⟨⟩⟩ ⟨⟩)
 rintro _ _ ⟨rfl, rfl, rfl⟩
 replace h := mz
 refine .d (sD h (fun adC h => ?_) (fun adC h => ?_))
 exact .t (.t (bk h fun Xa R9 h => ⟨aA R9, _, (ax R9).trans (ae.au Xa), (.t (.t (bk h fun acS adD h => (aR (uC _ _ adD) (.t (eB h))))))⟩))
 exact .f (.f (.f (.f (.f (eB h)))))
 intro _ adE a0 r h
 refine gq Tryz.func80 ?_
 refine .d (.d (.d ⟨rfl, ⟨rfl, _, rfl, (sN h (fun adF h => ?_) (fun adF h => ?_))⟩⟩))
 exact avd
 refine ⟨rfl, (.f ⟨rfl, _, rfl, (.f (.f (sN h (fun adG h => ?_) (fun adG h => ?_))))⟩)⟩
 exact .t (.t (.t (.t (.d (eB h)))))
 refine ⟨rfl, (.f ⟨rfl, _, rfl, (.f (.f (Pd h (fun adH h => ?_) (fun adH h => ?_))))⟩)⟩
 exact auL
 obtain ⟨IQ, adI, Sa⟩ := bd h
 replace h := adI
 refine .cut (fun σ η => .inl () = IQ ∧ σ = [] ∧ η = []) ?_ ?_
 refine .d ?_
 have adJ := adE _ _ _ h
 refine le (qp (motive := fun adK iU adL => a0 = adK → IQ = adL → aG _ _ [(1, .aL 0 0 0 0), (3, .int .i64 iU)] [.row 0 4 1 29 (fun _ => a0.lit)]) ?_ a0 0 IQ adJ rfl rfl) (tk [0] ⟨.p, .i, ⟨⟩⟩ ⟨(bZ rfl), ⟨⟩⟩)
 intro _ adM _ _ adK iU adL h adN  Pe adO
 subst Pe
 subst adO
 refine aG.round (.d (.d ⟨rfl, ⟨rfl, _, rfl, (sD h (fun adP h => ?_) (fun adP h => ?_))⟩⟩))
 refine .d (.d ⟨rfl, ⟨rfl, _, rfl, (bk h fun Dg yC h => ⟨aA yC, _, (ax yC).trans (ae.au Dg), (bk h fun Gf adQ h => (aR (adM _ _ adQ) (jV h (fun adR h => ?_) (fun adR h => ?_))))⟩)⟩⟩)
 refine .d ?_
 obtain rfl := si h
 replace h := Sa
 exact eB h
 exact lg (adN _ _ _ h rfl rfl) (tk [0] ⟨.p, .i, ⟨⟩⟩ ⟨(bZ rfl), ⟨⟩⟩)
 exact auK
 rintro _ _ ⟨rfl, rfl, rfl⟩
 replace h := Sa
 exact auL
 intro F0 F1 lQ lR a0 iU o h
 exact .mk F1 lR F0 lQ a0 iU o h
 intro _ _ _ _ wa uC adS nV a0 r h
 refine gq Tryz.func76 ?_
 refine .d (.d ⟨rfl, _, rfl, ?_⟩)
 obtain ⟨⟨acT, acU⟩, adT, h⟩ := bd h
 refine aR (ji adT) (.d ⟨rfl, ⟨rfl, _, rfl, (.d (.d (jV h (fun Ju h => ?_) (fun Ju h => ?_))))⟩⟩)
 exact .t (.t (.t (.d (eB h))))
 refine .f (.f (jV h (fun Jv h => ?_) (fun Jv h => ?_)))
 exact auL
 obtain ⟨Xm, adU, eV⟩ := bd h
 replace h := adU
 refine .cut (fun σ η => .inl () = Xm ∧ σ = [] ∧ η = []) ?_ ?_
 refine .d ⟨rfl, ⟨rfl, _, rfl, ?_⟩⟩
 obtain ⟨aps, adV, adW⟩ := bd h
 replace h := adV
 refine .cut (fun σ η => ∃ IU, IU = aps ∧ σ = [(1, .aL 0 0 0 0), (5, .int .i64 (a0.ah.length : Int)), (27, .int .i64 a0.ai), (28, .bool IU)] ∧ η = [.row 0 4 1 29 (fun _ => a0.lit)]) ?_ ?_
 refine .d (sE h (fun adX h => ?_) (fun adX h => ?_))
 exact auH
 refine .d (sE h (fun adY h => ?_) (fun adY h => ?_))
 exact auH
 refine .d (sE h (fun Jw h => ?_) (fun Jw h => ?_))
 exact auH
 refine .d (sE h (fun Jx h => ?_) (fun Jx h => ?_))
 exact auH
 exact auH
 rintro _ _ ⟨IU, rfl, rfl, rfl⟩
 replace h := adW
 refine sV h (fun adZ h => ?_) (fun adZ h => ?_)
 refine .d ?_
 exact aur
 obtain ⟨apt, ad0, ad1⟩ := bd h
 replace h := ad0
 refine .cut (fun σ η => ∃ IV, IV = apt ∧ σ = [(1, .aL 0 0 0 0), (5, .int .i64 (a0.ah.length : Int)), (27, .int .i64 a0.ai), (36, .bool IV)] ∧ η = [.row 0 4 1 29 (fun _ => a0.lit)]) ?_ ?_
 refine .d (sE h (fun ad2 h => ?_) (fun ad2 h => ?_))
 exact auH
 refine .d (sE h (fun Jy h => ?_) (fun Jy h => ?_))
 exact auH
 exact auH
 rintro _ _ ⟨IV, rfl, rfl, rfl⟩
 replace h := ad1
 refine sV h (fun Jz h => ?_) (fun Jz h => ?_)
 refine .d (sE h (fun ad3 h => ?_) (fun ad3 h => ?_))
 refine ⟨rfl, (.t ⟨rfl, _, rfl, (.t (bk h fun Xb Sb h => ⟨aA Sb, _, (ax Sb).trans (ae.au Xb), (.t (.t (bk h fun acV ad4 h => (aR (wa _ _ ad4) (.t ?_)))))⟩))⟩)⟩
 exact aur
 refine .f (.f (.f (.f (.f ?_))))
 exact aur
 refine .d (sE h (fun ad5 h => ?_) (fun ad5 h => ?_))
 refine .d (sD h (fun ad6 h => ?_) (fun ad6 h => ?_))
 refine ⟨rfl, (.t ⟨rfl, _, rfl, (.t (bk h fun acW ad7 h => (aR (nV _ _ _ ad7) (.t ?_))))⟩)⟩
 exact aur
 refine .f (.f (.f ?_))
 exact aur
 refine .d (sE h (fun JA h => ?_) (fun JA h => ?_))
 refine .d (sE h (fun JB h => ?_) (fun JB h => ?_))
 refine ⟨rfl, (.t ⟨rfl, _, rfl, (.t (bk h fun Xc Sd h => ⟨aA Sd, _, (ax Sd).trans (ae.au Xc), (.t (.t (bk h fun acX ad8 h => (aR (pd ad8) (.t (sV h (fun ad9 h => ?_) (fun ad9 h => ?_)))))))⟩))⟩)⟩
 refine ⟨rfl, (.t ⟨rfl, _, rfl, (.t (bk h fun Xd Se h => ⟨aA Se, _, (ax Se).trans (ae.au Xd), (.t (.t (bk h fun IW JC h => (aR (wa _ _ JC) (.t ?_)))))⟩))⟩)⟩
 exact aur
 refine .f (.f (.f (.f (.f ?_))))
 exact aur
 refine .f (.f (.f (.f (.f (.f (.f (.f (.f (.f (.f ?_))))))))))
 exact aur
 refine .d (sE h (fun JD h => ?_) (fun JD h => ?_))
 refine .d (bk h fun acY aea h => (aR (ns aea) (sV h (fun aeb h => ?_) (fun aeb h => ?_))))
 refine ⟨rfl, (.t ⟨rfl, _, rfl, (.t (bk h fun Xe Sf h => ⟨aA Sf, _, (ax Sf).trans (ae.au Xe), (.t (.t (bk h fun acZ aec h => (aR (wa _ _ aec) (.t (sV h (fun aed h => ?_) (fun aed h => ?_)))))))⟩))⟩)⟩
 refine ⟨rfl, (.t ⟨rfl, _, rfl, (.t (bk h fun Xf Sg h => ⟨aA Sg, _, (ax Sg).trans (ae.au Xf), (.t (.t (bk h fun zG JE h => (aR (uC _ _ JE) (.t (sV h (fun aee h => ?_) (fun aee h => ?_)))))))⟩))⟩)⟩
 refine ⟨rfl, (.t ⟨rfl, _, rfl, (.t (.t (.t (bk h fun Xg Sh h => ⟨aA Sh, _, (ax Sh).trans (ae.au Xg), (.t (.t (bk h fun ac0 aef h => (aR (uC _ _ aef) (.t ?_)))))⟩))))⟩)⟩
 exact aur
 refine .f (.f (.f (.f (.f (.f (.f ?_))))))
 exact aur
 refine .f (.f (.f (.f (.f (.f (.f (.f (.f (.f (.f (.f (.f ?_))))))))))))
 exact aur
 refine .f (.f (.f (.f (.f (.f (.f (.f (.f (.f (.f (.f (.f (.f (.f ?_))))))))))))))
 refine .f (.f (.f (.f ?_)))
 exact aur
 refine .d (sE h (fun aeg h => ?_) (fun aeg h => ?_))
 refine .d (sE h (fun aeh h => ?_) (fun aeh h => ?_))
 refine ⟨rfl, (.t ⟨rfl, _, rfl, (.t (bk h fun Xh Si h => ⟨aA Si, _, (ax Si).trans (ae.au Xh), (.t (.t (bk h fun ac1 aei h => (aR (wa _ _ aei) (.t (sV h (fun aej h => ?_) (fun aej h => ?_)))))))⟩))⟩)⟩
 refine ⟨rfl, (.t ⟨rfl, _, rfl, (.t (bk h fun De Bu h => ⟨aA Bu, _, (ax Bu).trans (ae.au De), (.t (.t (bk h fun IZ JF h => (aR (uC _ _ JF) (.t ?_)))))⟩))⟩)⟩
 exact aur
 refine .f (.f (.f (.f (.f ?_))))
 exact aur
 refine .f (.f (.f (.f (.f (.f (.f (.f (.f (.f (.f ?_))))))))))
 exact aur
 refine .d (sE h (fun aek h => ?_) (fun aek h => ?_))
 refine .d (bk h fun ac2 ael h => (aR (ns ael) (sV h (fun aem h => ?_) (fun aem h => ?_))))
 refine ⟨rfl, (.t ⟨rfl, _, rfl, (.t (.t (.t (bk h fun Pc yD h => ⟨trivial, zM yD, Pc.length, row ae.cells Pc, vz yD, zN yD, (.t (bk h fun ac3 aen h => (aR (nV _ _ _ aen) (.t (sV h (fun Bv h => ?_) (fun Bv h => ?_))))))⟩))))⟩)⟩
 refine ⟨rfl, (.t ⟨rfl, _, rfl, (.t (bk h fun ly rY h => ⟨aA rY, _, (ax rY).trans (ae.au ly), (.t (.t (.t (.t (sE h (fun aeo h => ?_) (fun aeo h => ?_))))))⟩))⟩)⟩
 refine ⟨rfl, (.t ⟨rfl, _, rfl, (.t (.t (.t (bk h fun Xi Sj h => ⟨aA Sj, _, (ax Sj).trans (ae.au Xi), (.t (.t (.t (.t (sE h (fun aep h => ?_) (fun aep h => ?_))))))⟩))))⟩)⟩
 refine ⟨rfl, (.t ⟨rfl, _, rfl, (.t (.t (.t (bk h fun Xj Sk h => ⟨aA Sk, _, (ax Sk).trans (ae.au Xj), (.t (.t (bk h fun uX JG h => (aR (uC _ _ JG) (.t ?_)))))⟩))))⟩)⟩
 exact aur
 refine .f (.f (.f (.f (.f (.f (.f ?_))))))
 exact aur
 refine .f (.f (.f (.f (.f (.f (.f (.f (.f (.f (.f (.f (.f (.f (.f ?_))))))))))))))
 refine .f ?_
 exact aur
 refine .f (.f (.f (.f (.f (.f (.f (.f (.f (.f (.f (.f (.f (.f (.f ?_))))))))))))))
 refine .f (.f (.f (.f (.f (.f (.f (.f ?_)))))))
 exact aur
 refine .f (.f (.f (.f (.f (.f (.f (.f (.f (.f (.f (.f (.f (.f (.f ?_))))))))))))))
 refine .f (.f (.f (.f (.f (.f (.f (.f (.f (.f (.f (.f (.f (.f (.f ?_))))))))))))))
 exact aur
 refine .d (sE h (fun aeq h => ?_) (fun aeq h => ?_))
 refine .d (bk h fun I3 JH h => (aR (ns JH) (sV h (fun aer h => ?_) (fun aer h => ?_))))
 refine ⟨rfl, (.t ⟨rfl, _, rfl, (.t (bk h fun ac4 aes h => (aR (nV _ _ _ aes) (.t (sV h (fun aet h => ?_) (fun aet h => ?_))))))⟩)⟩
 refine .t (.t (sE h (fun JI h => ?_) (fun JI h => ?_)))
 refine .t (.t (.t (.t (.t (.t (.t (.t ?_)))))))
 exact aur
 refine ⟨rfl, (.f ⟨rfl, _, rfl, (.f (bk h fun Xk Sl h => ⟨aA Sl, _, (ax Sl).trans (ae.au Xk), (.f (.f (.f (.t (.f (.t ?_))))))⟩))⟩)⟩
 exact aur
 refine .f (.f (.f (.f ?_)))
 exact aur
 refine .f (.f (.f (.f (.f (.f (.f (.f ?_)))))))
 exact aur
 refine .d (sE h (fun JJ h => ?_) (fun JJ h => ?_))
 refine .d ⟨rfl, _, rfl, (bk h fun ac5 aeu h => (aR (uC _ _ aeu) ?_))⟩
 exact aur
 refine .d (sE h (fun aev h => ?_) (fun aev h => ?_))
 refine .d (.d (bk h fun ac6 aew h => (aR (ns aew) (jV h (fun aex h => ?_) (fun aex h => ?_)))))
 refine .t (.t (.t (.t (.t (.t (.t (.d ?_)))))))
 exact aur
 refine ⟨rfl, (.f ⟨rfl, _, rfl, (.f (bk h fun Xl Sm h => ⟨aA Sm, _, (ax Sm).trans (ae.au Xl), (.f (.f (bk h fun ac7 aey h => (aR (uC _ _ aey) (.f (.f (jV h (fun JK h => ?_) (fun JK h => ?_))))))))⟩))⟩)⟩
 refine .d ?_
 exact aur
 obtain ⟨I4, aez, EV⟩ := bd h
 replace h := aez
 refine .cut (fun σ η => .inl () = I4 ∧ σ = [] ∧ η = []) ?_ ?_
 refine .d ?_
 have aeA := adS _ _ _ h
 refine le (qS (motive := fun aeB fy aeC => a0 = aeB → I4 = aeC → aG _ _ [(1, .aL 0 0 0 0), (5, .int .i64 (a0.ah.length : Int)), (6, .int .i64 fy)] [.row 0 4 1 29 (fun _ => a0.lit)]) ?_ a0 1 I4 aeA rfl rfl) (tk [0] ⟨.p, .i, .i, ⟨⟩⟩ ⟨(bZ rfl), ⟨⟩⟩)
 intro _ aeD _ Sn _ _ aeB fy aeC h So  Pf aeE
 subst Pf
 subst aeE
 refine aG.round (.d (.d (sD h (fun JL h => ?_) (fun JL h => ?_))))
 refine .d (.d ⟨rfl, ⟨rfl, _, rfl, (bk h fun hI Bw h => ⟨aA Bw, _, (ax Bw).trans (ae.au hI), ⟨rfl, _, fun _ => [.int .i64 hI.ai, .int .i64 hI.aC, .str hI.aj, sl 4 ae.cells hI.ah], rfl, bI rfl, (.d ⟨rfl, _, rfl, ?_⟩)⟩⟩)⟩⟩)
 obtain ⟨⟨vY, Bm⟩, aeF, h⟩ := bd h
 refine aR (ji aeF) ?_
 obtain ⟨apu, aeG, aeH⟩ := bd h
 replace h := aeG
 refine .cut (fun σ η => ∃ xT, xT = apu ∧ σ = [(1, .aL 0 0 0 0), (5, .int .i64 (a0.ah.length : Int)), (6, .int .i64 fy), (7, .aL 1 0 0 0), (8, .bool vY), (9, .bool Bm), (10, .bool xT)] ∧ η = [.row 0 4 1 29 (fun _ => a0.lit), .row 0 4 1 29 (fun _ => hI.lit)]) ?_ ?_
 refine ⟨rfl, ⟨rfl, _, rfl, (sE h (fun JM h => ?_) (fun JM h => ?_))⟩⟩
 refine .t (.t (sE h (fun JN h => ?_) (fun JN h => ?_)))
 refine ⟨rfl, (.t ⟨rfl, _, rfl, (.t (.t (.t (sE h (fun JO h => ?_) (fun JO h => ?_)))))⟩)⟩
 refine ⟨rfl, (.t ⟨rfl, _, rfl, (.t (bk h fun Dh Bx h => ⟨aA Bx, _, (ax Bx).trans (ae.au Dh), (.t (.t (.t (.t (sE h (fun JP h => ?_) (fun JP h => ?_))))))⟩))⟩)⟩
 refine ⟨rfl, (.t ⟨rfl, _, rfl, (.t (bk h fun Di By h => ⟨aA By, _, (ax By).trans (ae.au Di), (.t (.t (bk h fun Gg aeI h => (aR (aeD _ _ aeI) (.t (sV h (fun aeJ h => ?_) (fun aeJ h => ?_)))))))⟩))⟩)⟩
 exact ⟨rfl, (.t ⟨rfl, _, rfl, (.t (bk h fun Dj Sp h => ⟨aA Sp, _, (ax Sp).trans (ae.au Dj), (.t (.t (bk h fun Gh aeK h => (aR (Sn _ _ aeK) (.t (ct ⟨_, si h, rfl, rfl⟩ (tk [0, 1] ⟨.p, .i, .i, .p, .b, .b, .b, ⟨⟩⟩ ⟨(bZ rfl), (bZ rfl), ⟨⟩⟩)))))))⟩))⟩)⟩
 exact .f (.f (.f (.f (.f (ct ⟨_, si h, rfl, rfl⟩ (tk [0, 1] ⟨.p, .i, .i, .p, .b, .b, .b, ⟨⟩⟩ ⟨(bZ rfl), (bZ rfl), ⟨⟩⟩))))))
 exact .f (.f (.f (.f (.f (.f (.f (.f (.f (.f (.f (ct ⟨_, si h, rfl, rfl⟩ (tk [0, 1] ⟨.p, .i, .i, .p, .b, .b, .b, ⟨⟩⟩ ⟨(bZ rfl), (bZ rfl), ⟨⟩⟩))))))))))))
 refine .f (.f (.f (.f (.f (.f (.f (.f (.f (.f (.f (.f (.f (.f (.f ?_))))))))))))))
 exact .f (.f (.f (ct ⟨_, si h, rfl, rfl⟩ (tk [0, 1] ⟨.p, .i, .i, .p, .b, .b, .b, ⟨⟩⟩ ⟨(bZ rfl), (bZ rfl), ⟨⟩⟩))))
 refine .f (.f (.f (.f (.f (.f (.f (.f (.f (.f (.f (.f (.f (.f (.f ?_))))))))))))))
 exact .f (.f (.f (.f (.f (.f (.f (.f (ct ⟨_, si h, rfl, rfl⟩ (tk [0, 1] ⟨.p, .i, .i, .p, .b, .b, .b, ⟨⟩⟩ ⟨(bZ rfl), (bZ rfl), ⟨⟩⟩)))))))))
 refine .f (.f (.f (.f (.f (.f (.f (.f (.f (.f (.f (.f (.f (.f (.f ?_))))))))))))))
 exact .f (.f (.f (.f (.f (.f (.f (.f (.f (.f (.f (ct ⟨_, si h, rfl, rfl⟩ (tk [0, 1] ⟨.p, .i, .i, .p, .b, .b, .b, ⟨⟩⟩ ⟨(bZ rfl), (bZ rfl), ⟨⟩⟩))))))))))))
 rintro _ _ ⟨xT, rfl, rfl, rfl⟩
 replace h := aeH
 obtain ⟨apv, aeL, aeM⟩ := bd h
 replace h := aeL
 refine .cut (fun σ η => ∃ zH, zH = apv ∧ σ = [(1, .aL 0 0 0 0), (5, .int .i64 (a0.ah.length : Int)), (6, .int .i64 fy), (8, .bool vY), (9, .bool Bm), (10, .bool xT), (11, .bool zH)] ∧ η = [.row 0 4 1 29 (fun _ => a0.lit)]) ?_ ?_
 refine ⟨rfl, ⟨rfl, _, rfl, (sE h (fun aeN h => ?_) (fun aeN h => ?_))⟩⟩
 refine .t (.t (.t (.t (sE h (fun aeO h => ?_) (fun aeO h => ?_)))))
 refine ⟨rfl, (.t ⟨rfl, _, rfl, (.t (.t (.t (sE h (fun JQ h => ?_) (fun JQ h => ?_)))))⟩)⟩
 exact ⟨rfl, (.t ⟨rfl, _, rfl, (.t (bk h fun Dk Sq h => ⟨aA Sq, _, (ax Sq).trans (ae.au Dk), (.t (.t (bk h fun Gi aeP h => (aR (Sn _ _ aeP) (.t (ct ⟨_, si h, rfl, rfl⟩ (tk [0] ⟨.p, .i, .i, .b, .b, .b, .b, ⟨⟩⟩ ⟨(bZ rfl), ⟨⟩⟩)))))))⟩))⟩)⟩
 exact .f (.f (.f (.f (.f (ct ⟨_, si h, rfl, rfl⟩ (tk [0] ⟨.p, .i, .i, .b, .b, .b, .b, ⟨⟩⟩ ⟨(bZ rfl), ⟨⟩⟩))))))
 exact .f (.f (.f (.f (.f (.f (.f (.f (.f (.f (ct ⟨_, si h, rfl, rfl⟩ (tk [0] ⟨.p, .i, .i, .b, .b, .b, .b, ⟨⟩⟩ ⟨(bZ rfl), ⟨⟩⟩)))))))))))
 refine .f (.f (.f (.f (.f (.f (.f (.f (.f (.f (.f (.f (.f (.f (.f ?_))))))))))))))
 exact ct ⟨_, si h, rfl, rfl⟩ (tk [0] ⟨.p, .i, .i, .b, .b, .b, .b, ⟨⟩⟩ ⟨(bZ rfl), ⟨⟩⟩)
 rintro _ _ ⟨zH, rfl, rfl, rfl⟩
 replace h := aeM
 refine .d (jV h (fun aeQ h => ?_) (fun aeQ h => ?_))
 refine .t (.t (.t (.t (.t (.t (.t (.t (.d ?_))))))))
 obtain rfl := si h
 replace h := EV
 exact aur
 refine .f (.f (jV h (fun JR h => ?_) (fun JR h => ?_)))
 refine .t (.t (.t (.t (.t (.d ?_)))))
 obtain rfl := si h
 replace h := EV
 exact aur
 refine .f (.f (jV h (fun JS h => ?_) (fun JS h => ?_)))
 refine .t (.f (.t (.f (jV h (fun aeR h => ?_) (fun aeR h => ?_)))))
 refine .d ?_
 obtain rfl := si h
 replace h := EV
 exact aur
 exact lg (So _ _ _ h rfl rfl) (tk [0] ⟨.p, .i, .i, ⟨⟩⟩ ⟨(bZ rfl), ⟨⟩⟩)
 exact .f (.f (.f (.f (.f (lg (So _ _ _ h rfl rfl) (tk [0] ⟨.p, .i, .i, ⟨⟩⟩ ⟨(bZ rfl), ⟨⟩⟩))))))
 exact auK
 rintro _ _ ⟨rfl, rfl, rfl⟩
 replace h := EV
 refine .d ?_
 exact aur
 exact auK
 rintro _ _ ⟨rfl, rfl, rfl⟩
 replace h := eV
 exact auL
 intro F0 F1 F2 lQ lR hF2 a0 fy o h
 exact .mk F0 lQ F1 lR F2 hF2 a0 fy o h
 intro _ aeS a0 a1 r h
 refine gq Tryz.func149 ?_
 refine .d ?_
 obtain ⟨IM, aeT, Sr⟩ := bd h
 replace h := aeT
 refine .cut (fun σ η => .inl () = IM ∧ σ = [] ∧ η = []) ?_ ?_
 refine .d ?_
 have aeU := aeS _ _ _ h
 refine le (qQ (motive := fun aeV iT aeW => a0 = aeV → IM = aeW → aG _ _ [(0, sl 4 ae.cells a0), (5, .int .i64 iT)] []) ?_ a0 a1 IM aeU rfl rfl) (tk [] ⟨.l, .i, ⟨⟩⟩ ⟨⟩)
 intro _ aeX _ _ aeV iT aeW h aeY  Pg aeZ
 subst Pg
 subst aeZ
 refine aG.round (.d (.d (sD h (fun JT h => ?_) (fun JT h => ?_))))
 refine .d (.d (bk h fun Df Ss h => ⟨aA Ss, _, (ax Ss).trans (ae.au Df), (bk h fun v131 JU h => (aR (aeX _ _ JU) (jV h (fun JV h => ?_) (fun JV h => ?_))))⟩))
 refine .d ?_
 obtain rfl := si h
 replace h := Sr
 exact eB h
 exact lg (aeY _ _ _ h rfl rfl) (tk [] ⟨.l, .i, ⟨⟩⟩ ⟨⟩)
 exact auK
 rintro _ _ ⟨rfl, rfl, rfl⟩
 replace h := Sr
 exact auL
 intro F0 F1 lQ lR a0 iT o h
 exact .mk F0 lQ F1 lR a0 iT o h
 intro F0 F1 lQ lR a0 lS o h
 exact .mk F0 lQ F1 lR a0 lS o h
theorem zO {a0 : ae} {r : Bool} (h : aQ a0 = some r) : ACall Tryz.prog 79 [.agg a0.lit] [] (fun res h => res = .bool r ∧ h = []) := lT.1 a0 r h
theorem rZ {a0 : List ae} {a1 : Bool} {r : Bool} (h : hU a0 a1 = some r) : ACall Tryz.prog 77 [sl 4 ae.cells a0, .bool a1] [] (fun res h => res = .bool r ∧ h = []) := lT.2.1 a0 a1 r h
theorem zP {a0 : ae} {r : Bool} (h : cm a0 = some r) : ACall Tryz.prog 76 [.agg a0.lit] [] (fun res h => res = .bool r ∧ h = []) := lT.2.2.2.2.1 a0 r h
def il (a0 : ae) (y4 : Int) (y5 : Int) : Option ((Unit) ⊕ Bool) :=
 (if y5 < (a0.ah.length : Int) then
 idx a0.ah y5 >>= fun x9 =>
 cu x9 >>= fun (v11, v12) =>
 (
 (if x9.ai = 52 then
 (if y5 = 0 then
 (if a0.ai = 50 then
 some (0, ((x9.ah.length : Int) == 0))
 else
 some (0, false))
 else
 some (0, false))
 else
 (if x9.ai = 53 then
 some (1, ((x9.ah.length : Int) == 0))
 else
 (if x9.ai = 54 then
 (if (x9.ah.length : Int) = 1 then
 idx x9.ah 0 >>= fun qq =>
 tA qq.ai 1 3 >>= fun Ph =>
 (if Ph = true then
 idx x9.ah 0 >>= fun qO =>
 aQ qO >>= fun v32 =>
 some (2, v32)
 else
 some (2, false))
 else
 some (2, false))
 else
 (if x9.ai = 55 then
 hU x9.ah false >>= fun xS =>
 some (2, xS)
 else
 some (2, false)))))
 : Option (Int × Bool)) >>= fun (y14, b15) =>
 (if v11 = true then
 (if v12 = true then
 (if b15 = true then
 (if y14 < y4 then
 some (.inr false)
 else
 il a0 y14 (aS (y5 + 1)))
 else
 some (.inr false))
 else
 some (.inr false))
 else
 some (.inr false))
 else
 some (.inl ()))
partial_fixpoint
def jv (a0 : ae) : Option (Bool) :=
 ((
 il a0 0 0
 : Option ((Unit) ⊕ Bool)) >>= fun o1 => match o1 with
 | .inr r => some r
 | .inl _ =>
 some true
 )
theorem qA {a0 : ae} {r : Bool} (h : jv a0 = some r) : ACall Tryz.prog 78 [.agg a0.lit] [] (fun res h => res = .bool r ∧ h = []) := by
 refine gq Tryz.func78 ?_
 unfold jv at h
 refine .d (.d ?_)
 obtain ⟨o1, JW, gH⟩ := bd h
 replace h := JW
 refine .cut (fun σ η => .inl () = o1 ∧ σ = [] ∧ η = []) ?_ ?_
 refine .d ?_
 refine le (il.partial_correctness a0 (motive := fun y4 y5 o41 => o1 = o41 → aG _ _ [(1, .aL 0 0 0 0), (3, .int .i64 y4), (4, .int .i64 y5)] [.row 0 4 1 29 (fun _ => a0.lit)]) ?_ 0 0 o1 h rfl) (tk [0] ⟨.p, .i, .i, ⟨⟩⟩ ⟨(bZ rfl), ⟨⟩⟩)
 intro F7 St y4 y5 o41 h Xr
 subst Xr
 refine aG.round (.d (.d ⟨rfl, ⟨rfl, _, rfl, (sD h (fun Be h => ?_) (fun Be h => ?_))⟩⟩))
 refine .d (.d ⟨rfl, ⟨rfl, _, rfl, (bk h fun x9 Bz h => ⟨aA Bz, _, (ax Bz).trans (ae.au x9), ⟨rfl, _, fun _ => [.int .i64 x9.ai, .int .i64 x9.aC, .str x9.aj, sl 4 ae.cells x9.ah], rfl, bI rfl, (.d ⟨rfl, _, rfl, ?_⟩)⟩⟩)⟩⟩)
 obtain ⟨⟨v11, v12⟩, XG, h⟩ := bd h
 refine aR (ji XG) (.d (.d ?_))
 obtain ⟨W7, apw, apx⟩ := bd h
 replace h := apw
 refine .cut (fun σ η => ∃ y14, ∃ b15, (y14, b15) = W7 ∧ σ = [(1, .aL 0 0 0 0), (3, .int .i64 y4), (4, .int .i64 y5), (6, .bool v11), (7, .bool v12), (8, .int .i64 y14), (9, .bool b15)] ∧ η = [.row 0 4 1 29 (fun _ => a0.lit)]) ?_ ?_
 refine .d ⟨rfl, ⟨rfl, _, rfl, (.d (sE h (fun we h => ?_) (fun we h => ?_)))⟩⟩
 refine .d (sE h (fun uZ h => ?_) (fun uZ h => ?_))
 refine ⟨rfl, (.t ⟨rfl, _, rfl, (.t (.t (sE h (fun qs h => ?_) (fun qs h => ?_))))⟩)⟩
 exact ⟨rfl, (.t ⟨rfl, _, rfl, (.t (.t (.t (ct ⟨_, _, si h, rfl, rfl⟩ (tk [0] ⟨.p, .i, .i, .b, .b, .i, .b, ⟨⟩⟩ ⟨(bZ rfl), ⟨⟩⟩)))))⟩)⟩
 exact .f (.f (.f (.f (ct ⟨_, _, si h, rfl, rfl⟩ (tk [0] ⟨.p, .i, .i, .b, .b, .i, .b, ⟨⟩⟩ ⟨(bZ rfl), ⟨⟩⟩)))))
 exact .f (.f (.f (.f (.f (.f (.f (.f (ct ⟨_, _, si h, rfl, rfl⟩ (tk [0] ⟨.p, .i, .i, .b, .b, .i, .b, ⟨⟩⟩ ⟨(bZ rfl), ⟨⟩⟩)))))))))
 refine .d (sE h (fun u5 h => ?_) (fun u5 h => ?_))
 exact .d ⟨rfl, ⟨rfl, _, rfl, (ct ⟨_, _, si h, rfl, rfl⟩ (tk [0] ⟨.p, .i, .i, .b, .b, .i, .b, ⟨⟩⟩ ⟨(bZ rfl), ⟨⟩⟩))⟩⟩
 refine .d (sE h (fun xU h => ?_) (fun xU h => ?_))
 refine ⟨rfl, ⟨rfl, _, rfl, (sE h (fun BA h => ?_) (fun BA h => ?_))⟩⟩
 refine ⟨rfl, (.t ⟨rfl, _, rfl, (.t (bk h fun qq wg h => ⟨aA wg, _, (ax wg).trans (ae.au qq), (.t (.t (.t (bk h fun Ph XH h => (aR (ns XH) (.t (sV h (fun zJ h => ?_) (fun zJ h => ?_))))))))⟩))⟩)⟩
 exact ⟨rfl, (.t ⟨rfl, _, rfl, (.t (bk h fun qO tF h => ⟨aA tF, _, (ax tF).trans (ae.au qO), (.t (.t (bk h fun v32 apy h => (aR (zO apy) (.t (ct ⟨_, _, si h, rfl, rfl⟩ (tk [0] ⟨.p, .i, .i, .b, .b, .i, .b, ⟨⟩⟩ ⟨(bZ rfl), ⟨⟩⟩)))))))⟩))⟩)⟩
 exact .f (.f (.f (.f (.f (ct ⟨_, _, si h, rfl, rfl⟩ (tk [0] ⟨.p, .i, .i, .b, .b, .i, .b, ⟨⟩⟩ ⟨(bZ rfl), ⟨⟩⟩))))))
 exact .f (.f (.f (.f (.f (.f (.f (.f (.f (.f (.f (.f (ct ⟨_, _, si h, rfl, rfl⟩ (tk [0] ⟨.p, .i, .i, .b, .b, .i, .b, ⟨⟩⟩ ⟨(bZ rfl), ⟨⟩⟩)))))))))))))
 refine .d (sE h (fun wc h => ?_) (fun wc h => ?_))
 exact ⟨rfl, ⟨rfl, _, rfl, (bk h fun xS Dn h => (aR (rZ Dn) (ct ⟨_, _, si h, rfl, rfl⟩ (tk [0] ⟨.p, .i, .i, .b, .b, .i, .b, ⟨⟩⟩ ⟨(bZ rfl), ⟨⟩⟩))))⟩⟩
 exact ct ⟨_, _, si h, rfl, rfl⟩ (tk [0] ⟨.p, .i, .i, .b, .b, .i, .b, ⟨⟩⟩ ⟨(bZ rfl), ⟨⟩⟩)
 rintro _ _ ⟨y14, b15, rfl, rfl, rfl⟩
 replace h := apx
 refine .d (.d (jV h (fun zL h => ?_) (fun zL h => ?_)))
 refine .t (.t (.t (.t (.t (.t (.t (.t (.t (.t (.d ?_))))))))))
 exact aup
 refine .f (.f (jV h (fun zQ h => ?_) (fun zQ h => ?_)))
 refine .t (.t (.t (.t (.t (.t (.t (.d ?_)))))))
 exact aup
 refine .f (.f (jV h (fun wh h => ?_) (fun wh h => ?_)))
 refine .t (.t (.t (.t (.d ?_))))
 exact aup
 refine .f (.f (.f (sD h (fun Ja h => ?_) (fun Ja h => ?_))))
 refine .d ?_
 exact aup
 exact lg (St _ _ _ h rfl) (tk [0] ⟨.p, .i, .i, ⟨⟩⟩ ⟨(bZ rfl), ⟨⟩⟩)
 exact auK
 exact auD
def dw (a0 : ae) (fA : Int) : Option ((Unit) ⊕ Bool) :=
 (if fA < (a0.ah.length : Int) then
 idx a0.ah fA >>= fun wi =>
 cu wi >>= fun (Gk, XI) =>
 cm wi >>= fun u6 =>
 (if wi.ai = 49 then
 (if Gk = true then
 (if XI = true then
 hU wi.ah false >>= fun v24 =>
 (if v24 = true then
 dw a0 (aS (fA + 1))
 else
 some (.inr false))
 else
 some (.inr false))
 else
 some (.inr false))
 else
 (if wi.ai = 50 then
 (if Gk = true then
 (if XI = true then
 jv wi >>= fun v30 =>
 (if v30 = true then
 dw a0 (aS (fA + 1))
 else
 some (.inr false))
 else
 some (.inr false))
 else
 some (.inr false))
 else
 (if wi.ai = 51 then
 (if Gk = true then
 (if XI = true then
 jv wi >>= fun v36 =>
 (if v36 = true then
 dw a0 (aS (fA + 1))
 else
 some (.inr false))
 else
 some (.inr false))
 else
 some (.inr false))
 else
 (if u6 = true then
 dw a0 (aS (fA + 1))
 else
 some (.inr false)))))
 else
 some (.inl ()))
partial_fixpoint
def kl (a0 : ae) : Option (Bool) :=
 kj a0 >>= fun v1 =>
 (if v1 = true then
 (if a0.ai = 56 then
 (if a0.aC = 0 then
 (if a0.aj = ([] : aq) then
 ((
 dw a0 0
 : Option ((Unit) ⊕ Bool)) >>= fun o7 => match o7 with
 | .inr r => some r
 | .inl _ =>
 some true
 )
 else
 some false)
 else
 some false)
 else
 some false)
 else
 some false)
theorem xV {a0 : ae} {r : Bool} (h : kl a0 = some r) : ACall Tryz.prog 34 [.agg a0.lit] [] (fun res h => res = .bool r ∧ h = []) := by
 refine gq Tryz.func34 ?_
 unfold kl at h
 refine .d (.d (.d ⟨rfl, _, rfl, (bk h fun v1 mq h => (aR (xR mq) (jV h (fun oV h => ?_) (fun oV h => ?_))))⟩))
 exact .t (.t (.t (.t (.t (.t (.t (.t (.t (.t (.t (.t (.d (eB h)))))))))))))
 refine ⟨rfl, (.f ⟨rfl, _, rfl, (.f (.f (sN h (fun Bb h => ?_) (fun Bb h => ?_))))⟩)⟩
 exact avd
 refine ⟨rfl, (.f ⟨rfl, _, rfl, (.f (.f (sN h (fun Bc h => ?_) (fun Bc h => ?_))))⟩)⟩
 exact .t (.t (.t (.t (.d (eB h)))))
 refine ⟨rfl, (.f ⟨rfl, _, rfl, (.f (.f (Pd h (fun vA h => ?_) (fun vA h => ?_))))⟩)⟩
 exact auL
 obtain ⟨o7, XJ, zR⟩ := bd h
 replace h := XJ
 refine .cut (fun σ η => .inl () = o7 ∧ σ = [] ∧ η = []) ?_ ?_
 refine .d ?_
 refine le (dw.partial_correctness a0 (motive := fun fA o40 => o7 = o40 → aG _ _ [(1, .aL 0 0 0 0), (3, .int .i64 fA)] [.row 0 4 1 29 (fun _ => a0.lit)]) ?_ 0 o7 h rfl) (tk [0] ⟨.p, .i, ⟨⟩⟩ ⟨(bZ rfl), ⟨⟩⟩)
 intro F12 zS fA o40 h apz
 subst apz
 refine aG.round (.d (.d ⟨rfl, ⟨rfl, _, rfl, (sD h (fun rW h => ?_) (fun rW h => ?_))⟩⟩))
 refine .d (.d ⟨rfl, ⟨rfl, _, rfl, (bk h fun wi wj h => ⟨aA wj, _, (ax wj).trans (ae.au wi), ⟨rfl, _, fun _ => [.int .i64 wi.ai, .int .i64 wi.aC, .str wi.aj, sl 4 ae.cells wi.ah], rfl, bI rfl, (.d ⟨rfl, _, rfl, ?_⟩)⟩⟩)⟩⟩)
 obtain ⟨⟨Gk, XI⟩, XK, h⟩ := bd h
 refine aR (ji XK) (.d ⟨rfl, _, rfl, (bk h fun u6 zT h => (aR (zP zT) (.d (.d ⟨rfl, ⟨rfl, _, rfl, (.d (sE h (fun qs h => ?_) (fun qs h => ?_)))⟩⟩))))⟩)
 refine sV h (fun u5 h => ?_) (fun u5 h => ?_)
 refine .t (sV h (fun xU h => ?_) (fun xU h => ?_))
 refine ⟨rfl, (.t ⟨rfl, _, rfl, (.t (bk h fun v24 XL h => (aR (rZ XL) (.t (.d (jV h (fun Pj h => ?_) (fun Pj h => ?_)))))))⟩)⟩
 refine .d ?_
 exact auy
 exact auW
 refine .f (.f (.f (.d (.t (.d ?_)))))
 exact auy
 refine .f (.f (.f (.f (.f (.d (.t (.d ?_)))))))
 exact auy
 refine .d (.d (sE h (fun Dp h => ?_) (fun Dp h => ?_)))
 refine .kt Dp (sV h (fun JX h => ?_) (fun JX h => ?_))
 refine .t (sV h (fun zJ h => ?_) (fun zJ h => ?_))
 refine ⟨rfl, _, rfl, (.t (bk h fun v30 apA h => (aR (qA apA) (.t (.d (jV h (fun zK h => ?_) (fun zK h => ?_)))))))⟩
 refine .d ?_
 exact auy
 exact auW
 refine .f (.f (.d (.t (.d ?_))))
 exact auy
 refine .f (.f (.f (.f (.d (.t (.d ?_))))))
 exact auy
 refine sE h (fun Dm h => ?_) (fun Dm h => ?_)
 refine sV h (fun wc h => ?_) (fun wc h => ?_)
 refine .t (sV h (fun JY h => ?_) (fun JY h => ?_))
 refine ⟨rfl, _, rfl, (.t (bk h fun v36 apB h => (aR (qA apB) (.t (.d (jV h (fun zQ h => ?_) (fun zQ h => ?_)))))))⟩
 refine .d ?_
 exact auy
 exact auW
 refine .f (.f (.d (.t (.d ?_))))
 exact auy
 refine .f (.f (.f (.f (.d (.t (.d ?_))))))
 exact auy
 refine .d (jV h (fun wh h => ?_) (fun wh h => ?_))
 refine .d ?_
 exact auy
 exact auW
 exact auK
 rintro _ _ ⟨rfl, rfl, rfl⟩
 replace h := zR
 exact auL
set_option maxRecDepth 100000
def db (a0 : List ae) (a1 : Int) (s5 : aq) (y6 : Int) : Option (aq) :=
 (if y6 < (a0.length : Int) then
 idx a0 y6 >>= fun x10 =>
 (if x10.ai = a1 then
 (
 (if s5 = ([] : aq) then
 some s5
 else
 aI s5 [44, 32] >>= fun s18 =>
 some s18)
 : Option (aq)) >>= fun OO =>
 idx a0 y6 >>= fun Su =>
 (if Su.aC = 1 then
 aI OO [38] >>= fun s23 =>
 aI s23 [36] >>= fun XM =>
 idx a0 y6 >>= fun x27 =>
 aI XM x27.aj >>= fun s29 =>
 db a0 a1 s29 (aS (y6 + 1))
 else
 aI OO [36] >>= fun s31 =>
 idx a0 y6 >>= fun OP =>
 aI s31 OP.aj >>= fun s35 =>
 db a0 a1 s35 (aS (y6 + 1)))
 else
 db a0 a1 s5 (aS (y6 + 1)))
 else
 some s5)
partial_fixpoint
def gD (a0 : List ae) (a1 : Int) : Option (aq) :=
 (
 db a0 a1 [] 0
 : Option (aq)) >>= fun s1 =>
 aI [40] s1 >>= fun s39 =>
 aI s39 [41] >>= fun s41 =>
 some s41
theorem lU {a0 : List ae} {a1 : Int} {r : aq} (h : gD a0 a1 = some r) : ACall Tryz.prog 91 [sl 4 ae.cells a0, .int .i64 a1] [] (fun res h => res = .str r ∧ h = []) := by
 refine gq Tryz.func91 ?_
 unfold gD at h
 refine .d (.d ?_)
 obtain ⟨o2, vL, vM⟩ := bd h
 replace h := vL
 refine .cut (fun σ η => ∃ s1, s1 = o2 ∧ σ = [(5, .str s1)] ∧ η = []) ?_ ?_
 refine .d ?_
 refine le (db.partial_correctness a0 a1 (motive := fun s5 y6 o37 => o2 = o37 → aG _ _ [(0, sl 4 ae.cells a0), (1, .int .i64 a1), (5, .str s5), (6, .int .i64 y6)] []) ?_ [] 0 o2 h rfl) (tk [] ⟨.l, .i, .s, .i, ⟨⟩⟩ ⟨⟩)
 intro F8 zA s5 y6 o37 h apC
 subst apC
 refine aG.round (.d (.d (sD h (fun C8 h => ?_) (fun C8 h => ?_))))
 refine .d (.d (.d (bk h fun x10 BB h => ⟨aA BB, _, (ax BB).trans (ae.au x10), (sN h (fun oO h => ?_) (fun oO h => ?_))⟩)))
 exact lg (zA _ _ _ h rfl) (tk [] ⟨.l, .i, .s, .i, ⟨⟩⟩ ⟨⟩)
 obtain ⟨o14, apD, apE⟩ := bd h
 replace h := apD
 refine .cut (fun σ η => ∃ OO, OO = o14 ∧ σ = [(0, sl 4 ae.cells a0), (1, .int .i64 a1), (5, .str OO), (6, .int .i64 y6)] ∧ η = []) ?_ ?_
 refine .d (Pd h (fun rX h => ?_) (fun rX h => ?_))
 exact bk h fun s18 JZ h => ⟨ay JZ, s18, az JZ, (ct ⟨_, si h, rfl, rfl⟩ (tk [] ⟨.l, .i, .s, .i, ⟨⟩⟩ ⟨⟩))⟩
 exact ct ⟨_, si h, rfl, rfl⟩ (tk [] ⟨.l, .i, .s, .i, ⟨⟩⟩ ⟨⟩)
 rintro _ _ ⟨OO, rfl, rfl, rfl⟩
 replace h := apE
 refine .d (.d (bk h fun Su Gl h => ⟨aA Gl, _, (ax Gl).trans (ae.au Su), (sE h (fun u5 h => ?_) (fun u5 h => ?_))⟩))
 exact bk h fun s23 ae0 h => ⟨ay ae0, s23, az ae0, (bk h fun XM wg h => ⟨ay wg, XM, az wg, (bk h fun x27 ae1 h => ⟨aA ae1, _, (ax ae1).trans (ae.au x27), (bk h fun s29 ae2 h => ⟨ay ae2, s29, az ae2, (lg (zA _ _ _ h rfl) (tk [] ⟨.l, .i, .s, .i, ⟨⟩⟩ ⟨⟩))⟩)⟩)⟩)⟩
 exact bk h fun s31 ae3 h => ⟨ay ae3, s31, az ae3, (bk h fun OP J0 h => ⟨aA J0, _, (ax J0).trans (ae.au OP), (bk h fun s35 J1 h => ⟨ay J1, s35, az J1, (lg (zA _ _ _ h rfl) (tk [] ⟨.l, .i, .s, .i, ⟨⟩⟩ ⟨⟩))⟩)⟩)⟩
 exact auX
 rintro _ _ ⟨s1, rfl, rfl, rfl⟩
 replace h := vM
 exact .d (bk h fun s39 ae4 h => ⟨ay ae4, s39, az ae4, (bk h fun s41 ae5 h => ⟨ay ae5, s41, az ae5, (eS h)⟩)⟩)
mutual
def bJ (a0 : ae) (a1 : Int) : Option (aq) :=
 km a0 >>= fun v1 =>
 (if v1 < a1 then
 gr a0 >>= fun v4 =>
 aI [40] v4 >>= fun s6 =>
 aI s6 [41] >>= fun s8 =>
 some s8
 else
 gr a0 >>= fun v10 =>
 some v10)
partial_fixpoint
def gr (a0 : ae) : Option (aq) :=
 ((
 (if a0.ai = 1 then
 m94 a0.aC >>= fun Gk =>
 some (.inr Gk)
 else
 (if a0.ai = 2 then
 iD a0.aj >>= fun u6 =>
 some (.inr u6)
 else
 (if a0.ai = 3 then
 kQ ([[110, 117, 108, 108], [102, 97, 108, 115, 101], [116, 114, 117, 101]] : List aq) a0.aC >>= fun v22 =>
 some (.inr v22)
 else
 (if a0.ai = 4 then
 aI [36] a0.aj >>= fun XM =>
 some (.inr XM)
 else
 (if a0.ai = 5 then
 (
 dX a0 [] 0
 : Option (aq)) >>= fun s28 =>
 aI [91] s28 >>= fun s77 =>
 aI s77 [93] >>= fun s79 =>
 some (.inr s79)
 else
 (if a0.ai = 7 then
 eA a0 12 [91] 1 >>= fun R6 =>
 aI R6 [93] >>= fun s84 =>
 some (.inr s84)
 else
 (if a0.ai = 8 then
 idx a0.ah 0 >>= fun x87 =>
 bJ x87 12 >>= fun v89 =>
 aI v89 [45, 62] >>= fun s91 =>
 aI s91 a0.aj >>= fun s93 =>
 some (.inr s93)
 else
 (if a0.ai = 9 then
 idx a0.ah 0 >>= fun x96 =>
 kQ ([[], [33], [45]] : List aq) a0.aC >>= fun Sv =>
 bJ x96 11 >>= fun ae6 =>
 aI Sv ae6 >>= fun XN =>
 some (.inr XN)
 else
 (if a0.ai = 10 then
 dk a0.aC >>= fun v105 =>
 jw a0.aC >>= fun v107 =>
 aI [32] v107 >>= fun XO =>
 aI XO [32] >>= fun XP =>
 dk a0.aC >>= fun ae7 =>
 eA a0 v105 XP (aS (ae7 + 1)) >>= fun IL =>
 some (.inr IL)
 else
 (if a0.ai = 12 then
 eA a0 4 [32, 124, 124, 32] 5 >>= fun ae8 =>
 some (.inr ae8)
 else
 (if a0.ai = 11 then
 eA a0 5 [32, 38, 38, 32] 6 >>= fun ae9 =>
 some (.inr ae9)
 else
 (if a0.ai = 13 then
 eA a0 4 [32, 63, 63, 32] 3 >>= fun v124 =>
 some (.inr v124)
 else
 (if a0.ai = 14 then
 idx a0.ah 2 >>= fun XR =>
 eA a0 3 [32, 63, 32] 1 >>= fun J2 =>
 aI J2 [32, 58, 32] >>= fun XS =>
 bJ XR 2 >>= fun afa =>
 aI XS afa >>= fun XT =>
 some (.inr XT)
 else
 (if a0.ai = 15 then
 eA a0 12 [32, 61, 32] 1 >>= fun v138 =>
 some (.inr v138)
 else
 (if a0.ai = 16 then
 eA a0 12 [91, 93, 32, 61, 32] 1 >>= fun v141 =>
 some (.inr v141)
 else
 (if a0.ai = 17 then
 aI [36] a0.aj >>= fun XU =>
 aI XU [32, 61, 32, 38, 36] >>= fun XV =>
 idx a0.ah 0 >>= fun XW =>
 aI XV XW.aj >>= fun XX =>
 some (.inr XX)
 else
 (if a0.ai = 22 then
 aI [110, 101, 119, 32] a0.aj >>= fun XY =>
 eW a0.ah 0 >>= fun wm =>
 aI XY wm >>= fun XZ =>
 some (.inr XZ)
 else
 (if a0.ai = 20 then
 idx a0.ah 0 >>= fun X0 =>
 bJ X0 12 >>= fun v162 =>
 aI v162 [45, 62] >>= fun X1 =>
 aI X1 a0.aj >>= fun X2 =>
 eW a0.ah 1 >>= fun v168 =>
 aI X2 v168 >>= fun X3 =>
 some (.inr X3)
 else
 (if a0.ai = 19 then
 idx a0.ah 0 >>= fun X4 =>
 (if X4.ai = 8 then
 idx a0.ah 0 >>= fun X5 =>
 gr X5 >>= fun afb =>
 aI [40] afb >>= fun X6 =>
 aI X6 [41] >>= fun X7 =>
 eW a0.ah 1 >>= fun afc =>
 aI X7 afc >>= fun X8 =>
 some (.inr X8)
 else
 idx a0.ah 0 >>= fun X9 =>
 bJ X9 12 >>= fun afd =>
 eW a0.ah 1 >>= fun afe =>
 aI afd afe >>= fun Ya =>
 some (.inr Ya))
 else
 (if a0.ai = 23 then
 gD a0.ah 24 >>= fun J3 =>
 aI [102, 117, 110, 99, 116, 105, 111, 110, 32] J3 >>= fun J4 =>
 (if (a0.ah.length : Int) > 1 then
 idx a0.ah (aS ((a0.ah.length : Int) - 2)) >>= fun Yb =>
 (if Yb.ai = 25 then
 aI J4 [32, 117, 115, 101, 32] >>= fun Yc =>
 gD a0.ah 25 >>= fun BC =>
 aI Yc BC >>= fun Yd =>
 aI Yd [32] >>= fun Ye =>
 idx a0.ah (aS ((a0.ah.length : Int) - 1)) >>= fun Yf =>
 a8 Yf >>= fun aff =>
 aI Ye aff >>= fun Yg =>
 some (.inr Yg)
 else
 aI J4 [32] >>= fun Yh =>
 idx a0.ah (aS ((a0.ah.length : Int) - 1)) >>= fun Yi =>
 a8 Yi >>= fun afg =>
 aI Yh afg >>= fun Yj =>
 some (.inr Yj))
 else
 aI J4 [32] >>= fun Yk =>
 idx a0.ah (aS ((a0.ah.length : Int) - 1)) >>= fun Yl =>
 a8 Yl >>= fun afh =>
 aI Yk afh >>= fun Ym =>
 some (.inr Ym))
 else
 some (.inl ())))))))))))))))))))))
 : Option ((Unit) ⊕ aq)) >>= fun o12 => match o12 with
 | .inr r => some r
 | .inl _ =>
 eW a0.ah 0 >>= fun afi =>
 aI a0.aj afi >>= fun Yn =>
 some Yn
 )
partial_fixpoint
def eW (a0 : List ae) (a1 : Int) : Option (aq) :=
 (
 fC a0 a1 [] a1
 : Option (aq)) >>= fun J5 =>
 aI [40] J5 >>= fun Yo =>
 aI Yo [41] >>= fun Yp =>
 some Yp
partial_fixpoint
def eA (a0 : ae) (a1 : Int) (a2 : aq) (a3 : Int) : Option (aq) :=
 idx a0.ah 0 >>= fun Yq =>
 idx a0.ah 1 >>= fun De =>
 bJ Yq a1 >>= fun IZ =>
 aI IZ a2 >>= fun Yr =>
 bJ De a3 >>= fun afj =>
 aI Yr afj >>= fun Ys =>
 some Ys
partial_fixpoint
def a8 (a0 : ae) : Option (aq) :=
 (
 (if (a0.ah.length : Int) > 0 then
 idx a0.ah 0 >>= fun qT =>
 bD qT >>= fun r7 =>
 (if r7 = true then
 idx a0.ah 0 >>= fun qU =>
 bJ qU 1 >>= fun r8 =>
 some r8
 else
 some [])
 else
 some [])
 : Option (aq)) >>= fun u7 =>
 ((
 (if a0.ai = 31 then
 aI [63, 62, 10] a0.aj >>= fun Yt =>
 aI Yt [60, 63, 32] >>= fun Yu =>
 some (.inr Yu)
 else
 (if a0.ai = 32 then
 aI [101, 99, 104, 111, 32] u7 >>= fun Yv =>
 aI Yv [59] >>= fun Yw =>
 some (.inr Yw)
 else
 (if a0.ai = 33 then
 aI u7 [59] >>= fun Yx =>
 some (.inr Yx)
 else
 (if a0.ai = 34 then
 aI [105, 102, 32, 40] u7 >>= fun Yy =>
 aI Yy [41, 32] >>= fun Yz =>
 idx a0.ah 1 >>= fun Dq =>
 a8 Dq >>= fun nW =>
 aI Yz nW >>= fun Pk =>
 (if (a0.ah.length : Int) = 3 then
 aI Pk [32, 101, 108, 115, 101, 32] >>= fun YA =>
 idx a0.ah 2 >>= fun YB =>
 a8 YB >>= fun afk =>
 aI YA afk >>= fun YC =>
 some (.inr YC)
 else
 some (.inr Pk))
 else
 (if a0.ai = 35 then
 aI [119, 104, 105, 108, 101, 32, 40] u7 >>= fun YD =>
 aI YD [41, 32] >>= fun YE =>
 idx a0.ah 1 >>= fun YF =>
 a8 YF >>= fun afl =>
 aI YE afl >>= fun YG =>
 some (.inr YG)
 else
 (if a0.ai = 36 then
 aI [102, 111, 114, 101, 97, 99, 104, 32, 40] u7 >>= fun YH =>
 aI YH [32, 97, 115, 32, 36] >>= fun YI =>
 idx a0.ah 1 >>= fun YJ =>
 aI YI YJ.aj >>= fun Pl =>
 (if (a0.ah.length : Int) = 4 then
 aI Pl [32, 61, 62, 32, 36] >>= fun YK =>
 idx a0.ah 2 >>= fun qV =>
 aI YK qV.aj >>= fun YL =>
 aI YL [41, 32] >>= fun YM =>
 idx a0.ah (aS ((a0.ah.length : Int) - 1)) >>= fun YN =>
 a8 YN >>= fun afm =>
 aI YM afm >>= fun YO =>
 some (.inr YO)
 else
 aI Pl [41, 32] >>= fun YP =>
 idx a0.ah (aS ((a0.ah.length : Int) - 1)) >>= fun YQ =>
 a8 YQ >>= fun afn =>
 aI YP afn >>= fun YR =>
 some (.inr YR))
 else
 (if a0.ai = 37 then
 some (.inr [98, 114, 101, 97, 107, 59])
 else
 (if a0.ai = 38 then
 some (.inr [99, 111, 110, 116, 105, 110, 117, 101, 59])
 else
 (if a0.ai = 39 then
 (if (a0.ah.length : Int) = 0 then
 some (.inr [114, 101, 116, 117, 114, 110, 59])
 else
 aI [114, 101, 116, 117, 114, 110, 32] u7 >>= fun YS =>
 aI YS [59] >>= fun YT =>
 some (.inr YT))
 else
 (if a0.ai = 40 then
 aI [103, 108, 111, 98, 97, 108, 32, 36] a0.aj >>= fun YU =>
 aI YU [59] >>= fun YV =>
 some (.inr YV)
 else
 (if a0.ai = 41 then
 idx a0.ah 0 >>= fun YW =>
 bJ YW 12 >>= fun afo =>
 aI [117, 110, 115, 101, 116, 40] afo >>= fun YX =>
 aI YX [41, 59] >>= fun YY =>
 some (.inr YY)
 else
 (if a0.ai = 42 then
 aI [116, 104, 114, 111, 119, 32] u7 >>= fun YZ =>
 aI YZ [59] >>= fun Y0 =>
 some (.inr Y0)
 else
 (if a0.ai = 46 then
 (if (a0.ah.length : Int) = 2 then
 idx a0.ah 0 >>= fun Y1 =>
 aI [36] Y1.aj >>= fun Y2 =>
 aI Y2 [32, 61, 32, 121, 105, 101, 108, 100, 32] >>= fun Y3 =>
 idx a0.ah 1 >>= fun Y4 =>
 bJ Y4 1 >>= fun afp =>
 aI Y3 afp >>= fun Y5 =>
 aI Y5 [59] >>= fun Y6 =>
 some (.inr Y6)
 else
 aI [121, 105, 101, 108, 100, 32] u7 >>= fun Y7 =>
 aI Y7 [59] >>= fun Y8 =>
 some (.inr Y8))
 else
 (if a0.ai = 47 then
 iD a0.aj >>= fun afq =>
 aI [105, 110, 99, 108, 117, 100, 101, 32] afq >>= fun Y9 =>
 aI Y9 [59] >>= fun Za =>
 some (.inr Za)
 else
 (if a0.ai = 48 then
 eX a0.ah >>= fun afr =>
 aI [123, 32] afr >>= fun Zb =>
 aI Zb [125] >>= fun Zc =>
 some (.inr Zc)
 else
 (if a0.ai = 43 then
 idx a0.ah 0 >>= fun Zd =>
 a8 Zd >>= fun J6 =>
 aI [116, 114, 121, 32] J6 >>= fun Pm =>
 (
 bW a0 Pm 1
 : Option (aq)) >>= fun J7 =>
 some (.inr J7)
 else
 (if a0.ai = 44 then
 aI [32, 99, 97, 116, 99, 104, 32, 40] a0.aj >>= fun Ze =>
 aI Ze [32, 36] >>= fun Zf =>
 idx a0.ah 0 >>= fun Zg =>
 aI Zf Zg.aj >>= fun Zh =>
 aI Zh [41, 32] >>= fun Zi =>
 idx a0.ah 1 >>= fun Zj =>
 a8 Zj >>= fun afs =>
 aI Zi afs >>= fun Zk =>
 some (.inr Zk)
 else
 (if a0.ai = 45 then
 idx a0.ah 0 >>= fun Zl =>
 a8 Zl >>= fun aft =>
 aI [32, 102, 105, 110, 97, 108, 108, 121, 32] aft >>= fun Zm =>
 some (.inr Zm)
 else
 some (.inl ())))))))))))))))))))
 : Option ((Unit) ⊕ aq)) >>= fun Zn => match Zn with
 | .inr r => some r
 | .inl _ =>
 jO a0 >>= fun afu =>
 some afu
 )
partial_fixpoint
def eX (a0 : List ae) : Option (aq) :=
 (
 fD a0 [] 0
 : Option (aq)) >>= fun J8 =>
 some J8
partial_fixpoint
def jO (a0 : ae) : Option (aq) :=
 (
 (if (bits .and .i64 a0.aC 1) = 1 then
 some [112, 114, 105, 118, 97, 116, 101, 32]
 else
 some [])
 : Option (aq)) >>= fun Gm =>
 (
 (if (bits .and .i64 a0.aC 2) = 2 then
 aI Gm [115, 116, 97, 116, 105, 99, 32] >>= fun J9 =>
 some J9
 else
 some Gm)
 : Option (aq)) >>= fun Dr =>
 (
 (if a0.ai = 49 then
 some (a0.ai == 49)
 else
 some (a0.ai == 55))
 : Option (Bool)) >>= fun Ka =>
 (if Ka = true then
 aI Dr [102, 117, 110, 99, 116, 105, 111, 110, 32] >>= fun Zo =>
 aI Zo a0.aj >>= fun Zp =>
 idx a0.ah (aS ((a0.ah.length : Int) - 1)) >>= fun Zq =>
 gD a0.ah 24 >>= fun afv =>
 aI Zp afv >>= fun Zr =>
 aI Zr [32] >>= fun Zs =>
 a8 Zq >>= fun afw =>
 aI Zs afw >>= fun Zt =>
 some Zt
 else
 (if a0.ai = 53 then
 aI [117, 115, 101, 32] a0.aj >>= fun Zu =>
 aI Zu [59] >>= fun Zv =>
 some Zv
 else
 (if a0.ai = 54 then
 aI Dr [36] >>= fun Zw =>
 aI Zw a0.aj >>= fun Zx =>
 aI Zx [32, 61, 32] >>= fun Zy =>
 idx a0.ah 0 >>= fun Zz =>
 gr Zz >>= fun afx =>
 aI Zy afx >>= fun ZA =>
 aI ZA [59] >>= fun ZB =>
 some ZB
 else
 aI [116, 114, 97, 105, 116, 32] a0.aj >>= fun ZC =>
 (if a0.ai = 50 then
 aI [99, 108, 97, 115, 115, 32] a0.aj >>= fun Kb =>
 (if (a0.ah.length : Int) > 0 then
 idx a0.ah 0 >>= fun ZD =>
 (if ZD.ai = 52 then
 aI Kb [32, 101, 120, 116, 101, 110, 100, 115, 32] >>= fun ZE =>
 idx a0.ah 0 >>= fun ZF =>
 aI ZE ZF.aj >>= fun ZG =>
 aI ZG [32, 123, 32] >>= fun ZH =>
 eX a0.ah >>= fun afy =>
 aI ZH afy >>= fun ZI =>
 aI ZI [125] >>= fun ZJ =>
 some ZJ
 else
 aI Kb [32, 123, 32] >>= fun ZK =>
 eX a0.ah >>= fun zU =>
 aI ZK zU >>= fun ZL =>
 aI ZL [125] >>= fun ZM =>
 some ZM)
 else
 aI Kb [32, 123, 32] >>= fun ZN =>
 eX a0.ah >>= fun afz =>
 aI ZN afz >>= fun ZO =>
 aI ZO [125] >>= fun ZP =>
 some ZP)
 else
 aI ZC [32, 123, 32] >>= fun ZQ =>
 eX a0.ah >>= fun afA =>
 aI ZQ afA >>= fun ZR =>
 aI ZR [125] >>= fun ZS =>
 some ZS))))
partial_fixpoint
def dX (a0 : ae) (oW : aq) (lJ : Int) : Option (aq) :=
 (if lJ < (a0.ah.length : Int) then
 (
 (if lJ > 0 then
 aI oW [44, 32] >>= fun ZT =>
 some ZT
 else
 some oW)
 : Option (aq)) >>= fun Pn =>
 idx a0.ah lJ >>= fun ZU =>
 idx ZU.ah 0 >>= fun II =>
 bJ II 1 >>= fun Pb =>
 aI Pn Pb >>= fun OQ =>
 idx a0.ah lJ >>= fun Gn =>
 (if (Gn.ah.length : Int) = 2 then
 aI OQ [32, 61, 62, 32] >>= fun ZV =>
 idx a0.ah lJ >>= fun ZW =>
 idx ZW.ah 1 >>= fun ZX =>
 bJ ZX 1 >>= fun Po =>
 aI ZV Po >>= fun ZY =>
 dX a0 ZY (aS (lJ + 1))
 else
 dX a0 OQ (aS (lJ + 1)))
 else
 some oW)
partial_fixpoint
def fC (a0 : List ae) (a1 : Int) (iV : aq) (fP : Int) : Option (aq) :=
 (if fP < (a0.length : Int) then
 (if fP > a1 then
 aI iV [44, 32] >>= fun Ds =>
 idx a0 fP >>= fun wo =>
 bJ wo 1 >>= fun zV =>
 aI Ds zV >>= fun Dt =>
 fC a0 a1 Dt (aS (fP + 1))
 else
 idx a0 fP >>= fun Du =>
 bJ Du 1 >>= fun Gp =>
 aI iV Gp >>= fun Dv =>
 fC a0 a1 Dv (aS (fP + 1)))
 else
 some iV)
partial_fixpoint
def bW (a0 : ae) (jB : aq) (iW : Int) : Option (aq) :=
 (if iW < (a0.ah.length : Int) then
 idx a0.ah iW >>= fun wq =>
 a8 wq >>= fun u9 =>
 aI jB u9 >>= fun Dw =>
 bW a0 Dw (aS (iW + 1))
 else
 some jB)
partial_fixpoint
def fD (a0 : List ae) (iX : aq) (gI : Int) : Option (aq) :=
 (if gI < (a0.length : Int) then
 idx a0 gI >>= fun Dx =>
 (if Dx.ai = 52 then
 fD a0 iX (aS (gI + 1))
 else
 idx a0 gI >>= fun Dy =>
 a8 Dy >>= fun Gq =>
 aI iX Gq >>= fun Dz =>
 aI Dz [32] >>= fun DA =>
 fD a0 DA (aS (gI + 1)))
 else
 some iX)
partial_fixpoint
end
def yE (a0 : ae) (a1 : Int) (r : aq) : Prop := ACall Tryz.prog 82 [.agg a0.lit, .int .i64 a1] [] (fun res h => res = .str r ∧ h = [])
def Sw (a0 : ae) (r : aq) : Prop := ACall Tryz.prog 45 [.agg a0.lit] [] (fun res h => res = .str r ∧ h = [])
def Sx (a0 : List ae) (a1 : Int) (r : aq) : Prop := ACall Tryz.prog 90 [sl 4 ae.cells a0, .int .i64 a1] [] (fun res h => res = .str r ∧ h = [])
def Sy (a0 : ae) (a1 : Int) (a2 : aq) (a3 : Int) (r : aq) : Prop := ACall Tryz.prog 87 [.agg a0.lit, .int .i64 a1, .str a2, .int .i64 a3] [] (fun res h => res = .str r ∧ h = [])
def yF (a0 : ae) (r : aq) : Prop := ACall Tryz.prog 39 [.agg a0.lit] [] (fun res h => res = .str r ∧ h = [])
def Sz (a0 : List ae) (r : aq) : Prop := ACall Tryz.prog 47 [sl 4 ae.cells a0] [] (fun res h => res = .str r ∧ h = [])
def SA (a0 : ae) (r : aq) : Prop := ACall Tryz.prog 84 [.agg a0.lit] [] (fun res h => res = .str r ∧ h = [])
inductive dI : ae → aq → Int → (aq) → Prop
 | mk (DB : ae → Int → Option (aq)) (ZZ : ∀ a0 a1 r, DB a0 a1 = some r → yE a0 a1 r) (dc : ae → aq → Int → Option (aq)) (r9 : ∀ a0 oW lJ o, dc a0 oW lJ = some o → dI a0 oW lJ o) (a0 : ae) (oW : aq) (lJ : Int) (o : aq) (h : (
 (if lJ < (a0.ah.length : Int) then
 (
 (if lJ > 0 then
 aI oW [44, 32] >>= fun ZT =>
 some ZT
 else
 some oW)
 : Option (aq)) >>= fun Pn =>
 idx a0.ah lJ >>= fun ZU =>
 idx ZU.ah 0 >>= fun II =>
 DB II 1 >>= fun Pb =>
 aI Pn Pb >>= fun OQ =>
 idx a0.ah lJ >>= fun Gn =>
 (if (Gn.ah.length : Int) = 2 then
 aI OQ [32, 61, 62, 32] >>= fun ZV =>
 idx a0.ah lJ >>= fun ZW =>
 idx ZW.ah 1 >>= fun ZX =>
 DB ZX 1 >>= fun Po =>
 aI ZV Po >>= fun ZY =>
 dc a0 ZY (aS (lJ + 1))
 else
 dc a0 OQ (aS (lJ + 1)))
 else
 some oW)
 ) = some o) : dI a0 oW lJ o
theorem qW {motive : ae → aq → Int → (aq) → Prop} (step : ∀ (DB : ae → Int → Option (aq)) (ZZ : ∀ a0 a1 r, DB a0 a1 = some r → yE a0 a1 r) (dc : ae → aq → Int → Option (aq)) (r9 : ∀ a0 oW lJ o, dc a0 oW lJ = some o → dI a0 oW lJ o) (a0 : ae) (oW : aq) (lJ : Int) (o : aq) (h : (
 (if lJ < (a0.ah.length : Int) then
 (
 (if lJ > 0 then
 aI oW [44, 32] >>= fun ZT =>
 some ZT
 else
 some oW)
 : Option (aq)) >>= fun Pn =>
 idx a0.ah lJ >>= fun ZU =>
 idx ZU.ah 0 >>= fun II =>
 DB II 1 >>= fun Pb =>
 aI Pn Pb >>= fun OQ =>
 idx a0.ah lJ >>= fun Gn =>
 (if (Gn.ah.length : Int) = 2 then
 aI OQ [32, 61, 62, 32] >>= fun ZV =>
 idx a0.ah lJ >>= fun ZW =>
 idx ZW.ah 1 >>= fun ZX =>
 DB ZX 1 >>= fun Po =>
 aI ZV Po >>= fun ZY =>
 dc a0 ZY (aS (lJ + 1))
 else
 dc a0 OQ (aS (lJ + 1)))
 else
 some oW)
 ) = some o) (ih : ∀ a0 oW lJ o, dc a0 oW lJ = some o → motive a0 oW lJ o), motive a0 oW lJ o) : ∀ a0 oW lJ o, dI a0 oW lJ o → motive a0 oW lJ o :=
 fun a0 oW lJ o h => dI.rec (motive := fun a0 oW lJ o _ => motive a0 oW lJ o) step h
inductive dJ : (List ae) → Int → aq → Int → (aq) → Prop
 | mk (DB : ae → Int → Option (aq)) (ZZ : ∀ a0 a1 r, DB a0 a1 = some r → yE a0 a1 r) (de : (List ae) → Int → aq → Int → Option (aq)) (sc : ∀ a0 a1 iV fP o, de a0 a1 iV fP = some o → dJ a0 a1 iV fP o) (a0 : List ae) (a1 : Int) (iV : aq) (fP : Int) (o : aq) (h : (
 (if fP < (a0.length : Int) then
 (if fP > a1 then
 aI iV [44, 32] >>= fun Ds =>
 idx a0 fP >>= fun wo =>
 DB wo 1 >>= fun zV =>
 aI Ds zV >>= fun Dt =>
 de a0 a1 Dt (aS (fP + 1))
 else
 idx a0 fP >>= fun Du =>
 DB Du 1 >>= fun Gp =>
 aI iV Gp >>= fun Dv =>
 de a0 a1 Dv (aS (fP + 1)))
 else
 some iV)
 ) = some o) : dJ a0 a1 iV fP o
theorem qZ {motive : (List ae) → Int → aq → Int → (aq) → Prop} (step : ∀ (DB : ae → Int → Option (aq)) (ZZ : ∀ a0 a1 r, DB a0 a1 = some r → yE a0 a1 r) (de : (List ae) → Int → aq → Int → Option (aq)) (sc : ∀ a0 a1 iV fP o, de a0 a1 iV fP = some o → dJ a0 a1 iV fP o) (a0 : List ae) (a1 : Int) (iV : aq) (fP : Int) (o : aq) (h : (
 (if fP < (a0.length : Int) then
 (if fP > a1 then
 aI iV [44, 32] >>= fun Ds =>
 idx a0 fP >>= fun wo =>
 DB wo 1 >>= fun zV =>
 aI Ds zV >>= fun Dt =>
 de a0 a1 Dt (aS (fP + 1))
 else
 idx a0 fP >>= fun Du =>
 DB Du 1 >>= fun Gp =>
 aI iV Gp >>= fun Dv =>
 de a0 a1 Dv (aS (fP + 1)))
 else
 some iV)
 ) = some o) (ih : ∀ a0 a1 iV fP o, de a0 a1 iV fP = some o → motive a0 a1 iV fP o), motive a0 a1 iV fP o) : ∀ a0 a1 iV fP o, dJ a0 a1 iV fP o → motive a0 a1 iV fP o :=
 fun a0 a1 iV fP o h => dJ.rec (motive := fun a0 a1 iV fP o _ => motive a0 a1 iV fP o) step h
inductive dK : ae → aq → Int → (aq) → Prop
 | mk (Kc : ae → Option (aq)) (Z0 : ∀ a0 r, Kc a0 = some r → yF a0 r) (fp : ae → aq → Int → Option (aq)) (sd : ∀ a0 jB iW o, fp a0 jB iW = some o → dK a0 jB iW o) (a0 : ae) (jB : aq) (iW : Int) (o : aq) (h : (
 (if iW < (a0.ah.length : Int) then
 idx a0.ah iW >>= fun wq =>
 Kc wq >>= fun u9 =>
 aI jB u9 >>= fun Dw =>
 fp a0 Dw (aS (iW + 1))
 else
 some jB)
 ) = some o) : dK a0 jB iW o
theorem re {motive : ae → aq → Int → (aq) → Prop} (step : ∀ (Kc : ae → Option (aq)) (Z0 : ∀ a0 r, Kc a0 = some r → yF a0 r) (fp : ae → aq → Int → Option (aq)) (sd : ∀ a0 jB iW o, fp a0 jB iW = some o → dK a0 jB iW o) (a0 : ae) (jB : aq) (iW : Int) (o : aq) (h : (
 (if iW < (a0.ah.length : Int) then
 idx a0.ah iW >>= fun wq =>
 Kc wq >>= fun u9 =>
 aI jB u9 >>= fun Dw =>
 fp a0 Dw (aS (iW + 1))
 else
 some jB)
 ) = some o) (ih : ∀ a0 jB iW o, fp a0 jB iW = some o → motive a0 jB iW o), motive a0 jB iW o) : ∀ a0 jB iW o, dK a0 jB iW o → motive a0 jB iW o :=
 fun a0 jB iW o h => dK.rec (motive := fun a0 jB iW o _ => motive a0 jB iW o) step h
inductive dL : (List ae) → aq → Int → (aq) → Prop
 | mk (Kc : ae → Option (aq)) (Z0 : ∀ a0 r, Kc a0 = some r → yF a0 r) (df : (List ae) → aq → Int → Option (aq)) (se : ∀ a0 iX gI o, df a0 iX gI = some o → dL a0 iX gI o) (a0 : List ae) (iX : aq) (gI : Int) (o : aq) (h : (
 (if gI < (a0.length : Int) then
 idx a0 gI >>= fun Dx =>
 (if Dx.ai = 52 then
 df a0 iX (aS (gI + 1))
 else
 idx a0 gI >>= fun Dy =>
 Kc Dy >>= fun Gq =>
 aI iX Gq >>= fun Dz =>
 aI Dz [32] >>= fun DA =>
 df a0 DA (aS (gI + 1)))
 else
 some iX)
 ) = some o) : dL a0 iX gI o
theorem rf {motive : (List ae) → aq → Int → (aq) → Prop} (step : ∀ (Kc : ae → Option (aq)) (Z0 : ∀ a0 r, Kc a0 = some r → yF a0 r) (df : (List ae) → aq → Int → Option (aq)) (se : ∀ a0 iX gI o, df a0 iX gI = some o → dL a0 iX gI o) (a0 : List ae) (iX : aq) (gI : Int) (o : aq) (h : (
 (if gI < (a0.length : Int) then
 idx a0 gI >>= fun Dx =>
 (if Dx.ai = 52 then
 df a0 iX (aS (gI + 1))
 else
 idx a0 gI >>= fun Dy =>
 Kc Dy >>= fun Gq =>
 aI iX Gq >>= fun Dz =>
 aI Dz [32] >>= fun DA =>
 df a0 DA (aS (gI + 1)))
 else
 some iX)
 ) = some o) (ih : ∀ a0 iX gI o, df a0 iX gI = some o → motive a0 iX gI o), motive a0 iX gI o) : ∀ a0 iX gI o, dL a0 iX gI o → motive a0 iX gI o :=
 fun a0 iX gI o h => dL.rec (motive := fun a0 iX gI o _ => motive a0 iX gI o) step h
theorem zW : (∀ a0 a1 r, bJ a0 a1 = some r → yE a0 a1 r) ∧ (∀ a0 r, gr a0 = some r → Sw a0 r) ∧ (∀ a0 r, a8 a0 = some r → yF a0 r) ∧ (∀ a0 r, jO a0 = some r → SA a0 r) ∧ (∀ a0 r, eX a0 = some r → Sz a0 r) ∧ (∀ a0 iX gI o, fD a0 iX gI = some o → dL a0 iX gI o) ∧ (∀ a0 jB iW o, bW a0 jB iW = some o → dK a0 jB iW o) ∧ (∀ a0 a1 r, eW a0 a1 = some r → Sx a0 a1 r) ∧ (∀ a0 a1 iV fP o, fC a0 a1 iV fP = some o → dJ a0 a1 iV fP o) ∧ (∀ a0 a1 a2 a3 r, eA a0 a1 a2 a3 = some r → Sy a0 a1 a2 a3 r) ∧ (∀ a0 oW lJ o, dX a0 oW lJ = some o → dI a0 oW lJ o) := by
 refine bJ.mutual_partial_correctness yE Sw yF SA Sz dL dK Sx dJ Sy dI ?_ ?_ ?_ ?_ ?_ ?_ ?_ ?_ ?_ ?_ ?_
 intro _ yG a0 a1 r h
 refine gq Tryz.func82 ?_
 refine .d (.d (.d ⟨rfl, _, rfl, (bk h fun v1 mq h => (aR (xW mq) (sD h (fun oV h => ?_) (fun oV h => ?_))))⟩))
 exact .d ⟨rfl, _, rfl, (bk h fun v4 vW h => (aR (yG _ _ vW) (bk h fun s6 hx7 h => ⟨ay hx7, s6, az hx7, (bk h fun s8 SB h => ⟨ay SB, s8, az SB, (eS h)⟩)⟩)))⟩
 exact .d ⟨rfl, _, rfl, (bk h fun v10 Kd h => (aR (yG _ _ Kd) (eS h)))⟩
 intro _ _ _ _ _ _ oG yG mA BD uD apF a0 r h
 refine gq Tryz.func45 ?_
 refine .d (.d ⟨rfl, ⟨rfl, _, rfl, ?_⟩⟩)
 obtain ⟨o12, Z1, k8⟩ := bd h
 replace h := Z1
 refine .cut (fun σ η => .inl () = o12 ∧ σ = [(1, .aL 0 0 0 0), (3, sl 4 ae.cells a0.ah)] ∧ η = [.row 0 4 1 29 (fun _ => a0.lit)]) ?_ ?_
 refine .d ⟨rfl, ⟨rfl, _, rfl, (.d (sE h (fun lI h => ?_) (fun lI h => ?_)))⟩⟩
 refine .d ⟨rfl, ⟨rfl, _, rfl, (bk h fun Gk Ke h => (aR (apG Ke) ?_))⟩⟩
 exact aut
 refine .d (sE h (fun sf h => ?_) (fun sf h => ?_))
 refine .d ⟨rfl, ⟨rfl, _, rfl, (bk h fun u6 zT h => (aR (pe zT) ?_))⟩⟩
 exact aut
 refine .d (sE h (fun qs h => ?_) (fun qs h => ?_))
 refine .d ⟨row cS ([[110, 117, 108, 108], [102, 97, 108, 115, 101], [116, 114, 117, 101]] : List aq), aD cS ([[110, 117, 108, 108], [102, 97, 108, 115, 101], [116, 114, 117, 101]] : List aq) rfl (aB rfl), ⟨rfl, ⟨rfl, _, rfl, (bk h fun v22 apH h => (pcS (uE apH) ⟨(.rx rfl), .i, ⟨⟩⟩ ?_))⟩⟩⟩
 exact aut
 refine .d (sE h (fun BA h => ?_) (fun BA h => ?_))
 refine .d ⟨rfl, ⟨rfl, _, rfl, (bk h fun XM wg h => ⟨ay wg, XM, az wg, ?_⟩)⟩⟩
 exact aut
 refine .d (sE h (fun Dp h => ?_) (fun Dp h => ?_))
 refine .d ?_
 obtain ⟨o29, apI, apJ⟩ := bd h
 replace h := apI
 refine .cut (fun σ η => ∃ s28, s28 = o29 ∧ σ = [(4, .str s28)] ∧ η = []) ?_ ?_
 refine .d ?_
 have apK := apF _ _ _ _ h
 refine le (qW (motive := fun p74 oW lJ o72 => a0 = p74 → o29 = o72 → aG _ _ [(3, sl 4 ae.cells a0.ah), (4, .str oW), (5, .int .i64 lJ)] []) ?_ a0 [] 0 o29 apK rfl rfl) (tk [] ⟨.l, .s, .i, ⟨⟩⟩ ⟨⟩)
 intro _ afB _ _ p74 oW lJ o72 h afC  Z2 apL
 subst Z2
 subst apL
 refine aG.round (.d (.d (sD h (fun apM h => ?_) (fun apM h => ?_))))
 refine .d ?_
 obtain ⟨o45, apN, apO⟩ := bd h
 replace h := apN
 refine .cut (fun σ η => ∃ Pn, Pn = o45 ∧ σ = [(3, sl 4 ae.cells a0.ah), (4, .str Pn), (5, .int .i64 lJ)] ∧ η = []) ?_ ?_
 refine .d (sD h (fun Z3 h => ?_) (fun Z3 h => ?_))
 exact bk h fun ZT Kf h => ⟨ay Kf, ZT, az Kf, (ct ⟨_, si h, rfl, rfl⟩ (tk [] ⟨.l, .s, .i, ⟨⟩⟩ ⟨⟩))⟩
 exact ct ⟨_, si h, rfl, rfl⟩ (tk [] ⟨.l, .s, .i, ⟨⟩⟩ ⟨⟩)
 rintro _ _ ⟨Pn, rfl, rfl, rfl⟩
 replace h := apO
 refine .d (bk h fun ZU afD h => ⟨aA afD, _, (ax afD).trans (ae.au ZU), (bk h fun II Jc h => ⟨aA Jc, _, (ax Jc).trans (ae.au II), (bk h fun Pb Xt h => (aR (afB _ _ _ Xt) (bk h fun OQ afE h => ⟨ay afE, OQ, az afE, (.d (bk h fun Gn Kg h => ⟨aA Kg, _, (ax Kg).trans (ae.au Gn), (sE h (fun Jd h => ?_) (fun Jd h => ?_))⟩))⟩)))⟩)⟩)
 exact bk h fun ZV afF h => ⟨ay afF, ZV, az afF, (bk h fun ZW afG h => ⟨aA afG, _, (ax afG).trans (ae.au ZW), (bk h fun ZX afH h => ⟨aA afH, _, (ax afH).trans (ae.au ZX), (bk h fun Po Z4 h => (aR (afB _ _ _ Z4) (bk h fun ZY afI h => ⟨ay afI, ZY, az afI, (lg (afC _ _ _ _ h rfl rfl) (tk [] ⟨.l, .s, .i, ⟨⟩⟩ ⟨⟩))⟩)))⟩)⟩)⟩
 exact lg (afC _ _ _ _ h rfl rfl) (tk [] ⟨.l, .s, .i, ⟨⟩⟩ ⟨⟩)
 exact auX
 rintro _ _ ⟨s28, rfl, rfl, rfl⟩
 replace h := apJ
 refine .d (bk h fun s77 afJ h => ⟨ay afJ, s77, az afJ, (bk h fun s79 afK h => ⟨ay afK, s79, az afK, ?_⟩)⟩)
 exact aut
 refine .d (sE h (fun Z5 h => ?_) (fun Z5 h => ?_))
 refine .d ⟨rfl, _, rfl, (bk h fun R6 Jh h => (aR (uD _ _ _ _ _ Jh) (bk h fun s84 Kh h => ⟨ay Kh, s84, az Kh, ?_⟩)))⟩
 exact aut
 refine .d (sE h (fun apP h => ?_) (fun apP h => ?_))
 refine .d (.float [(0, true), (1, true), (2, true), (5, true), (6, true), (3, false), (4, true), (7, true), (8, true)] avs ?_)
 refine bk h fun x87 afL h => ⟨aA afL, _, (ax afL).trans (ae.au x87), ⟨rfl, ⟨rfl, _, rfl, (bk h fun v89 apQ h => (aR (oG _ _ _ apQ) ⟨rfl, ⟨rfl, (bk h fun s91 afM h => ⟨ay afM, s91, az afM, (bk h fun s93 afN h => ⟨ay afN, s93, az afN, ?_⟩)⟩)⟩⟩))⟩⟩⟩
 exact aut
 refine .d (sE h (fun Z6 h => ?_) (fun Z6 h => ?_))
 refine .d (.float [(1, true), (2, true), (4, true), (5, true), (6, true), (0, false), (3, false), (7, false), (8, true), (9, true)] avs ?_)
 refine ⟨rfl, ⟨rfl, _, rfl, (bk h fun x96 Ki h => ⟨aA Ki, _, (ax Ki).trans (ae.au x96), ⟨row cS ([[], [33], [45]] : List aq), aD cS ([[], [33], [45]] : List aq) rfl (aB rfl), ⟨rfl, ⟨rfl, (bk h fun Sv Z7 h => (pcS (uE Z7) ⟨(.rx rfl), .i, ⟨⟩⟩ (bk h fun ae6 afO h => (aR (oG _ _ _ afO) (bk h fun XN SC h => ⟨ay SC, XN, az SC, ?_⟩)))))⟩⟩⟩⟩)⟩⟩
 exact aut
 refine .d (sE h (fun Kj h => ?_) (fun Kj h => ?_))
 refine .d (.float [(0, true), (1, true), (2, true), (4, true), (5, true), (9, true), (10, true), (3, false), (6, false), (7, true), (8, true), (11, false), (12, true), (13, false), (14, true)] avs ?_)
 refine ⟨rfl, _, rfl, ⟨rfl, ⟨rfl, _, rfl, ⟨rfl, ⟨rfl, _, rfl, ⟨rfl, ⟨rfl, _, rfl, (bk h fun v105 afP h => (aR (mQ afP) ⟨rfl, ⟨rfl, ⟨rfl, ⟨rfl, ⟨rfl, (bk h fun v107 Kk h => ?_)⟩⟩⟩⟩⟩))⟩⟩⟩⟩⟩⟩⟩
 refine aR (xX Kk) ⟨rfl, ⟨rfl, ⟨rfl, (bk h fun XO SD h => ⟨ay SD, XO, az SD, (bk h fun XP SE h => ⟨ay SE, XP, az SE, (bk h fun ae7 afQ h => (aR (mQ afQ) ⟨rfl, (bk h fun IL Jm h => (aR (uD _ _ _ _ _ Jm) ?_))⟩))⟩)⟩)⟩⟩⟩
 exact aut
 refine .d (sE h (fun afR h => ?_) (fun afR h => ?_))
 refine .d ⟨rfl, _, rfl, (bk h fun ae8 afS h => (aR (uD _ _ _ _ _ afS) ?_))⟩
 exact aut
 refine .d (sE h (fun afT h => ?_) (fun afT h => ?_))
 refine .d ⟨rfl, _, rfl, (bk h fun ae9 afU h => (aR (uD _ _ _ _ _ afU) ?_))⟩
 exact aut
 refine .d (sE h (fun afV h => ?_) (fun afV h => ?_))
 refine .d ⟨rfl, _, rfl, (bk h fun v124 afW h => (aR (uD _ _ _ _ _ afW) ?_))⟩
 exact aut
 refine .d (sE h (fun Kl h => ?_) (fun Kl h => ?_))
 refine .d (.float [(0, true), (3, true), (4, true), (5, true), (1, false), (2, true), (6, false), (7, true), (8, true)] avs ?_)
 refine ⟨rfl, _, rfl, (bk h fun XR SF h => ⟨aA SF, _, (ax SF).trans (ae.au XR), (bk h fun J2 Km h => (aR (uD _ _ _ _ _ Km) (bk h fun XS SG h => ⟨ay SG, XS, az SG, (bk h fun afa afX h => (aR (oG _ _ _ afX) (bk h fun XT BE h => ⟨ay BE, XT, az BE, ?_⟩)))⟩)))⟩)⟩
 exact aut
 refine .d (sE h (fun Kn h => ?_) (fun Kn h => ?_))
 refine .d ⟨rfl, _, rfl, (bk h fun v138 afY h => (aR (uD _ _ _ _ _ afY) ?_))⟩
 exact aut
 refine .d (sE h (fun afZ h => ?_) (fun afZ h => ?_))
 refine .d ⟨rfl, _, rfl, (bk h fun v141 af0 h => (aR (uD _ _ _ _ _ af0) ?_))⟩
 exact aut
 refine .d (sE h (fun af1 h => ?_) (fun af1 h => ?_))
 refine .d ⟨rfl, ⟨rfl, _, rfl, (bk h fun XU SH h => ⟨ay SH, XU, az SH, (bk h fun XV SI h => ⟨ay SI, XV, az SI, (bk h fun XW SJ h => ⟨aA SJ, _, (ax SJ).trans (ae.au XW), (bk h fun XX SK h => ⟨ay SK, XX, az SK, ?_⟩)⟩)⟩)⟩)⟩⟩
 exact aut
 refine .d (sE h (fun Ko h => ?_) (fun Ko h => ?_))
 refine .d (.float [(0, true), (1, true), (2, true), (3, true), (4, false), (5, true), (6, true)] avs ?_)
 refine ⟨rfl, ⟨rfl, _, rfl, (bk h fun XY SL h => ⟨ay SL, XY, az SL, (bk h fun wm BF h => (aR (BD _ _ _ BF) ⟨rfl, ⟨rfl, (bk h fun XZ SM h => ⟨ay SM, XZ, az SM, ?_⟩)⟩⟩))⟩)⟩⟩
 exact aut
 refine .d (sE h (fun Kp h => ?_) (fun Kp h => ?_))
 refine .d (.float [(0, true), (1, true), (2, true), (5, true), (6, true), (8, true), (3, false), (4, true), (7, true), (9, false), (10, true), (11, true)] avs ?_)
 refine bk h fun X0 SN h => ⟨aA SN, _, (ax SN).trans (ae.au X0), ⟨rfl, ⟨rfl, _, rfl, (bk h fun v162 af2 h => (aR (oG _ _ _ af2) ⟨rfl, ⟨rfl, (bk h fun X1 SO h => ⟨ay SO, X1, az SO, (bk h fun X2 SP h => ⟨ay SP, X2, az SP, (bk h fun v168 Bs h => (aR (BD _ _ _ Bs) ⟨rfl, ?_⟩))⟩)⟩)⟩⟩))⟩⟩⟩
 refine ⟨rfl, (bk h fun X3 SQ h => ⟨ay SQ, X3, az SQ, ?_⟩)⟩
 exact aut
 refine .d (sE h (fun Js h => ?_) (fun Js h => ?_))
 refine .d (.d (bk h fun X4 SR h => ⟨aA SR, _, (ax SR).trans (ae.au X4), (sE h (fun af3 h => ?_) (fun af3 h => ?_))⟩))
 refine .d (bk h fun X5 SS h => ⟨aA SS, _, (ax SS).trans (ae.au X5), (bk h fun afb af4 h => (aR (yG _ _ af4) (bk h fun X6 SU h => ⟨ay SU, X6, az SU, (bk h fun X7 SV h => ⟨ay SV, X7, az SV, (bk h fun afc af5 h => (aR (BD _ _ _ af5) (bk h fun X8 yH h => ⟨ay yH, X8, az yH, ?_⟩)))⟩)⟩)))⟩)
 exact aut
 refine .d (bk h fun X9 SW h => ⟨aA SW, _, (ax SW).trans (ae.au X9), (bk h fun afd af6 h => (aR (oG _ _ _ af6) (bk h fun afe af7 h => (aR (BD _ _ _ af7) (bk h fun Ya SX h => ⟨ay SX, Ya, az SX, ?_⟩)))))⟩)
 exact aut
 refine .d (sE h (fun af8 h => ?_) (fun af8 h => ?_))
 refine .d (bk h fun J3 Kq h => (aR (lU Kq) (bk h fun J4 SY h => ⟨ay SY, J4, az SY, (.d (.d (sD h (fun Kr h => ?_) (fun Kr h => ?_))))⟩)))
 refine .t (.t (.t (.t (bk h fun Yb SZ h => ⟨aA SZ, _, (ax SZ).trans (ae.au Yb), (.t (.t (.t (.t (sE h (fun af9 h => ?_) (fun af9 h => ?_))))))⟩))))
 refine bk h fun Yc BG h => ⟨ay BG, Yc, az BG, (bk h fun BC Ks h => (aR (lU Ks) (bk h fun Yd S4 h => ⟨ay S4, Yd, az S4, (.d (bk h fun Ye S5 h => ⟨ay S5, Ye, az S5, (bk h fun Yf S6 h => ⟨aA S6, _, (ax S6).trans (ae.au Yf), (bk h fun aff aga h => (aR (mA _ _ aga) (bk h fun Yg S7 h => ⟨ay S7, Yg, az S7, ?_⟩)))⟩)⟩))⟩)))⟩
 exact aut
 refine .d (bk h fun Yh S8 h => ⟨ay S8, Yh, az S8, (bk h fun Yi S9 h => ⟨aA S9, _, (ax S9).trans (ae.au Yi), (bk h fun afg agb h => (aR (mA _ _ agb) (bk h fun Yj Ta h => ⟨ay Ta, Yj, az Ta, ?_⟩)))⟩)⟩)
 exact aut
 refine .f (.f (.f (.f (.f (.f (.f (.f (.f (.d (bk h fun Yk Tb h => ⟨ay Tb, Yk, az Tb, (bk h fun Yl Tc h => ⟨aA Tc, _, (ax Tc).trans (ae.au Yl), (bk h fun afh agc h => ?_)⟩)⟩))))))))))
 refine aR (mA _ _ agc) (bk h fun Ym Td h => ⟨ay Td, Ym, az Td, ?_⟩)
 exact aut
 exact ct ⟨si h, rfl, rfl⟩ (tk [0] ⟨.p, .l, ⟨⟩⟩ ⟨(bZ rfl), ⟨⟩⟩)
 rintro _ _ ⟨rfl, rfl, rfl⟩
 replace h := k8
 refine .d (.float [(0, true), (1, true), (2, true), (3, false), (4, true), (5, true)] avs ?_)
 exact ⟨rfl, ⟨rfl, _, rfl, (bk h fun afi agd h => (aR (BD _ _ _ agd) ⟨rfl, ⟨rfl, (bk h fun Yn Te h => ⟨ay Te, Yn, az Te, (eS h)⟩)⟩⟩))⟩⟩
 intro _ _ _ _ _ oG mA age yI agf a0 r h
 refine gq Tryz.func39 ?_
 refine .d (.d ⟨rfl, ⟨rfl, _, rfl, (.d ?_)⟩⟩)
 obtain ⟨apR, agh, agi⟩ := bd h
 replace h := agh
 refine .cut (fun σ η => ∃ u7, u7 = apR ∧ σ = [(1, .aL 0 0 0 0), (3, sl 4 ae.cells a0.ah), (4, .str u7)] ∧ η = [.row 0 4 1 29 (fun _ => a0.lit)]) ?_ ?_
 refine .d (sD h (fun agj h => ?_) (fun agj h => ?_))
 refine .t (bk h fun qT Tf h => ⟨aA Tf, _, (ax Tf).trans (ae.au qT), (.t (.t (bk h fun r7 agk h => (aR (wu agk) (.t (sV h (fun agl h => ?_) (fun agl h => ?_)))))))⟩)
 exact bk h fun qU Tg h => ⟨aA Tg, _, (ax Tg).trans (ae.au qU), (bk h fun r8 agm h => (aR (oG _ _ _ agm) (ct ⟨_, si h, rfl, rfl⟩ (tk [0] ⟨.p, .l, .s, ⟨⟩⟩ ⟨(bZ rfl), ⟨⟩⟩))))⟩
 exact auU
 exact .f (.f (.f (.f (.f (ct ⟨_, si h, rfl, rfl⟩ (tk [0] ⟨.p, .l, .s, ⟨⟩⟩ ⟨(bZ rfl), ⟨⟩⟩))))))
 rintro _ _ ⟨u7, rfl, rfl, rfl⟩
 replace h := agi
 obtain ⟨Zn, agn, jj⟩ := bd h
 replace h := agn
 refine .cut (fun σ η => .inl () = Zn ∧ σ = [(1, .aL 0 0 0 0)] ∧ η = [.row 0 4 1 29 (fun _ => a0.lit)]) ?_ ?_
 refine .d ⟨rfl, ⟨rfl, _, rfl, (.d (sE h (fun ago h => ?_) (fun ago h => ?_)))⟩⟩
 refine .d ⟨rfl, ⟨rfl, _, rfl, (bk h fun Yt Th h => ⟨ay Th, Yt, az Th, (bk h fun Yu Ti h => ⟨ay Ti, Yu, az Ti, ?_⟩)⟩)⟩⟩
 exact auu
 refine .d (sE h (fun Kt h => ?_) (fun Kt h => ?_))
 refine .d (bk h fun Yv Tj h => ⟨ay Tj, Yv, az Tj, (bk h fun Yw Tk h => ⟨ay Tk, Yw, az Tk, ?_⟩)⟩)
 exact auu
 refine .d (sE h (fun agp h => ?_) (fun agp h => ?_))
 refine .d (bk h fun Yx Tl h => ⟨ay Tl, Yx, az Tl, ?_⟩)
 exact auu
 refine .d (sE h (fun agq h => ?_) (fun agq h => ?_))
 refine .d (bk h fun Yy Tm h => ⟨ay Tm, Yy, az Tm, (bk h fun Yz Tn h => ⟨ay Tn, Yz, az Tn, (bk h fun Dq BH h => ⟨aA BH, _, (ax BH).trans (ae.au Dq), (bk h fun nW BI h => (aR (mA _ _ BI) (bk h fun Pk To h => ⟨ay To, Pk, az To, (.d (.d (sE h (fun Ku h => ?_) (fun Ku h => ?_))))⟩)))⟩)⟩)⟩)
 refine bk h fun YA BJ h => ⟨ay BJ, YA, az BJ, (bk h fun YB Tp h => ⟨aA Tp, _, (ax Tp).trans (ae.au YB), (bk h fun afk agr h => (aR (mA _ _ agr) (bk h fun YC Tq h => ⟨ay Tq, YC, az Tq, (.d ?_)⟩)))⟩)⟩
 exact auu
 refine .d ?_
 exact auu
 refine .d (sE h (fun ags h => ?_) (fun ags h => ?_))
 refine .d (bk h fun YD Tr h => ⟨ay Tr, YD, az Tr, (bk h fun YE Ts h => ⟨ay Ts, YE, az Ts, (bk h fun YF Tt h => ⟨aA Tt, _, (ax Tt).trans (ae.au YF), (bk h fun afl agt h => (aR (mA _ _ agt) (bk h fun YG Bx h => ⟨ay Bx, YG, az Bx, ?_⟩)))⟩)⟩)⟩)
 exact auu
 refine .d (sE h (fun JP h => ?_) (fun JP h => ?_))
 refine .d (bk h fun YH By h => ⟨ay By, YH, az By, (bk h fun YI Tu h => ⟨ay Tu, YI, az Tu, (bk h fun YJ Tv h => ⟨aA Tv, _, (ax Tv).trans (ae.au YJ), (bk h fun Pl Tw h => ⟨ay Tw, Pl, az Tw, (.d (.d (sE h (fun agu h => ?_) (fun agu h => ?_))))⟩)⟩)⟩)⟩)
 refine bk h fun YK Tx h => ⟨ay Tx, YK, az Tx, (bk h fun qV BK h => ⟨aA BK, _, (ax BK).trans (ae.au qV), (bk h fun YL Ty h => ⟨ay Ty, YL, az Ty, (.d (bk h fun YM Tz h => ⟨ay Tz, YM, az Tz, (bk h fun YN TA h => ⟨aA TA, _, (ax TA).trans (ae.au YN), (bk h fun afm agv h => (aR (mA _ _ agv) (bk h fun YO TB h => ⟨ay TB, YO, az TB, ?_⟩)))⟩)⟩))⟩)⟩)⟩
 exact auu
 refine .d (bk h fun YP TC h => ⟨ay TC, YP, az TC, (bk h fun YQ TD h => ⟨aA TD, _, (ax TD).trans (ae.au YQ), (bk h fun afn agw h => (aR (mA _ _ agw) (bk h fun YR TE h => ⟨ay TE, YR, az TE, ?_⟩)))⟩)⟩)
 exact auu
 refine .d (sE h (fun agx h => ?_) (fun agx h => ?_))
 refine .d ?_
 exact auu
 refine .d (sE h (fun agy h => ?_) (fun agy h => ?_))
 refine .d ?_
 exact auu
 refine .d (sE h (fun agz h => ?_) (fun agz h => ?_))
 refine .d (.d (sE h (fun Kv h => ?_) (fun Kv h => ?_)))
 refine .d ?_
 exact auu
 refine .d (bk h fun YS BL h => ⟨ay BL, YS, az BL, (bk h fun YT TF h => ⟨ay TF, YT, az TF, ?_⟩)⟩)
 exact auu
 refine .d (sE h (fun agA h => ?_) (fun agA h => ?_))
 refine .d ⟨rfl, ⟨rfl, _, rfl, (bk h fun YU TG h => ⟨ay TG, YU, az TG, (bk h fun YV TH h => ⟨ay TH, YV, az TH, ?_⟩)⟩)⟩⟩
 exact auu
 refine .d (sE h (fun Kw h => ?_) (fun Kw h => ?_))
 refine .d (bk h fun YW TJ h => ⟨aA TJ, _, (ax TJ).trans (ae.au YW), (bk h fun afo agB h => (aR (oG _ _ _ agB) (bk h fun YX TK h => ⟨ay TK, YX, az TK, (bk h fun YY yJ h => ⟨ay yJ, YY, az yJ, ?_⟩)⟩)))⟩)
 exact auu
 refine .d (sE h (fun agC h => ?_) (fun agC h => ?_))
 refine .d (bk h fun YZ TL h => ⟨ay TL, YZ, az TL, (bk h fun Y0 yK h => ⟨ay yK, Y0, az yK, ?_⟩)⟩)
 exact auu
 refine .d (sE h (fun agD h => ?_) (fun agD h => ?_))
 refine .d (.d (sE h (fun agE h => ?_) (fun agE h => ?_)))
 refine .d (.float [(0, true), (1, true), (2, true), (3, true), (4, true), (5, true), (6, true), (7, true), (8, true), (9, false), (10, true), (11, true), (12, true)] avs ?_)
 refine bk h fun Y1 TM h => ⟨aA TM, _, (ax TM).trans (ae.au Y1), (bk h fun Y2 BM h => ⟨ay BM, Y2, az BM, (bk h fun Y3 TN h => ⟨ay TN, Y3, az TN, (bk h fun Y4 TO h => ⟨aA TO, _, (ax TO).trans (ae.au Y4), (bk h fun afp agF h => (aR (oG _ _ _ agF) (bk h fun Y5 uF h => ⟨ay uF, Y5, az uF, (bk h fun Y6 TP h => ⟨ay TP, Y6, az TP, ?_⟩)⟩)))⟩)⟩)⟩)⟩
 exact auu
 refine .d (bk h fun Y7 TQ h => ⟨ay TQ, Y7, az TQ, (bk h fun Y8 BN h => ⟨ay BN, Y8, az BN, ?_⟩)⟩)
 exact auu
 refine .d (sE h (fun agG h => ?_) (fun agG h => ?_))
 refine .d ⟨rfl, ⟨rfl, _, rfl, (bk h fun afq agH h => (aR (pe agH) (bk h fun Y9 TR h => ⟨ay TR, Y9, az TR, (bk h fun Za BO h => ⟨ay BO, Za, az BO, ?_⟩)⟩)))⟩⟩
 exact auu
 refine .d (sE h (fun Kx h => ?_) (fun Kx h => ?_))
 refine .d (bk h fun afr agI h => (aR (yI _ _ agI) (bk h fun Zb TS h => ⟨ay TS, Zb, az TS, (bk h fun Zc TT h => ⟨ay TT, Zc, az TT, ?_⟩)⟩)))
 exact auu
 refine .d (sE h (fun agJ h => ?_) (fun agJ h => ?_))
 refine .d (bk h fun Zd TU h => ⟨aA TU, _, (ax TU).trans (ae.au Zd), (bk h fun J6 Ky h => (aR (mA _ _ Ky) (bk h fun Pm TV h => ⟨ay TV, Pm, az TV, ?_⟩)))⟩)
 obtain ⟨Z8, agK, agL⟩ := bd h
 replace h := agK
 refine .cut (fun σ η => ∃ J7, J7 = Z8 ∧ σ = [(7, .str J7)] ∧ η = []) ?_ ?_
 refine .d ?_
 have agM := agf _ _ _ _ h
 refine le (re (motive := fun agN jB iW agO => a0 = agN → Z8 = agO → aG _ _ [(3, sl 4 ae.cells a0.ah), (7, .str jB), (8, .int .i64 iW)] []) ?_ a0 Pm 1 Z8 agM rfl rfl) (tk [] ⟨.l, .s, .i, ⟨⟩⟩ ⟨⟩)
 intro _ agP _ _ agN jB iW agO h agQ  Pp agR
 subst Pp
 subst agR
 refine aG.round (.d (.d (sD h (fun agS h => ?_) (fun agS h => ?_))))
 exact .d (bk h fun wq BP h => ⟨aA BP, _, (ax BP).trans (ae.au wq), (bk h fun u9 Kz h => (aR (agP _ _ Kz) (bk h fun Dw TW h => ⟨ay TW, Dw, az TW, (lg (agQ _ _ _ _ h rfl rfl) (tk [] ⟨.l, .s, .i, ⟨⟩⟩ ⟨⟩))⟩)))⟩)
 exact auX
 rintro _ _ ⟨J7, rfl, rfl, rfl⟩
 replace h := agL
 refine .d ?_
 exact auu
 refine .d (sE h (fun agT h => ?_) (fun agT h => ?_))
 refine .d (.float [(0, true), (1, true), (2, true), (3, true), (4, true), (5, true), (6, true), (7, true), (8, true), (9, true), (10, true), (11, true), (12, true), (13, false), (14, true), (15, true)] avs ?_)
 refine ⟨rfl, ⟨rfl, _, rfl, (bk h fun Ze TX h => ⟨ay TX, Ze, az TX, (bk h fun Zf TY h => ⟨ay TY, Zf, az TY, (bk h fun Zg TZ h => ⟨aA TZ, _, (ax TZ).trans (ae.au Zg), (bk h fun Zh T0 h => ⟨ay T0, Zh, az T0, (bk h fun Zi T1 h => ⟨ay T1, Zi, az T1, (bk h fun Zj T2 h => ⟨aA T2, _, (ax T2).trans (ae.au Zj), (bk h fun afs agU h => ?_)⟩)⟩)⟩)⟩)⟩)⟩)⟩⟩
 refine aR (mA _ _ agU) ⟨rfl, ⟨rfl, (bk h fun Zk T3 h => ⟨ay T3, Zk, az T3, ?_⟩)⟩⟩
 exact auu
 refine .d (sE h (fun agV h => ?_) (fun agV h => ?_))
 refine .d (bk h fun Zl T4 h => ⟨aA T4, _, (ax T4).trans (ae.au Zl), (bk h fun aft agW h => (aR (mA _ _ agW) (bk h fun Zm T5 h => ⟨ay T5, Zm, az T5, ?_⟩)))⟩)
 exact auu
 exact ct ⟨si h, rfl, rfl⟩ (tk [0] ⟨.p, ⟨⟩⟩ ⟨(bZ rfl), ⟨⟩⟩)
 rintro _ _ ⟨rfl, rfl, rfl⟩
 replace h := jj
 exact .d ⟨rfl, _, rfl, (bk h fun afu agX h => (aR (age _ _ agX) (eS h)))⟩
 intro _ _ _ yG mA yI a0 r h
 refine gq Tryz.func84 ?_
 refine .d (.d ⟨rfl, ⟨rfl, _, rfl, (.d ?_)⟩⟩)
 obtain ⟨apS, agY, agZ⟩ := bd h
 replace h := agY
 refine .cut (fun σ η => ∃ Gm, Gm = apS ∧ σ = [(1, .aL 0 0 0 0), (3, sl 4 ae.cells a0.ah), (4, .str Gm)] ∧ η = [.row 0 4 1 29 (fun _ => a0.lit)]) ?_ ?_
 refine .d ⟨rfl, ⟨rfl, _, rfl, (sE h (fun ag0 h => ?_) (fun ag0 h => ?_))⟩⟩
 exact auU
 exact auU
 rintro _ _ ⟨Gm, rfl, rfl, rfl⟩
 replace h := agZ
 obtain ⟨apT, ag1, ag2⟩ := bd h
 replace h := ag1
 refine .cut (fun σ η => ∃ Dr, Dr = apT ∧ σ = [(1, .aL 0 0 0 0), (3, sl 4 ae.cells a0.ah), (4, .str Dr)] ∧ η = [.row 0 4 1 29 (fun _ => a0.lit)]) ?_ ?_
 refine .d ⟨rfl, ⟨rfl, _, rfl, (sE h (fun ag3 h => ?_) (fun ag3 h => ?_))⟩⟩
 exact bk h fun J9 T6 h => ⟨ay T6, J9, az T6, (ct ⟨_, si h, rfl, rfl⟩ (tk [0] ⟨.p, .l, .s, ⟨⟩⟩ ⟨(bZ rfl), ⟨⟩⟩))⟩
 exact auU
 rintro _ _ ⟨Dr, rfl, rfl, rfl⟩
 replace h := ag2
 refine .d (.d ⟨rfl, ⟨rfl, _, rfl, ?_⟩⟩)
 obtain ⟨apU, ag4, ag5⟩ := bd h
 replace h := ag4
 refine .cut (fun σ η => ∃ Ka, Ka = apU ∧ σ = [(1, .aL 0 0 0 0), (3, sl 4 ae.cells a0.ah), (4, .str Dr), (18, .int .i64 a0.ai), (19, .bool Ka)] ∧ η = [.row 0 4 1 29 (fun _ => a0.lit)]) ?_ ?_
 refine .d (sE h (fun ag6 h => ?_) (fun ag6 h => ?_))
 exact ct ⟨_, si h, rfl, rfl⟩ (tk [0] ⟨.p, .l, .s, .i, .b, ⟨⟩⟩ ⟨(bZ rfl), ⟨⟩⟩)
 exact ct ⟨_, si h, rfl, rfl⟩ (tk [0] ⟨.p, .l, .s, .i, .b, ⟨⟩⟩ ⟨(bZ rfl), ⟨⟩⟩)
 rintro _ _ ⟨Ka, rfl, rfl, rfl⟩
 replace h := ag5
 refine sV h (fun ag7 h => ?_) (fun ag7 h => ?_)
 refine .d (.float [(0, true), (1, true), (2, true), (3, true), (4, true), (5, true), (9, true), (10, true), (11, true), (12, true), (13, true), (14, true), (6, false), (7, true), (8, true), (15, false), (16, true), (17, true)] avs ?_)
 refine bk h fun Zo T7 h => ⟨ay T7, Zo, az T7, ⟨rfl, ⟨rfl, _, rfl, (bk h fun Zp T8 h => ⟨ay T8, Zp, az T8, (bk h fun Zq T9 h => ⟨aA T9, _, (ax T9).trans (ae.au Zq), (bk h fun afv ag8 h => (aR (lU ag8) ⟨rfl, ⟨rfl, (bk h fun Zr Ua h => ⟨ay Ua, Zr, az Ua, (bk h fun Zs Ub h => ?_)⟩)⟩⟩))⟩)⟩)⟩⟩⟩
 exact ⟨ay Ub, Zs, az Ub, (bk h fun afw ag9 h => (aR (mA _ _ ag9) ⟨rfl, ⟨rfl, (bk h fun Zt Uc h => ⟨ay Uc, Zt, az Uc, (eS h)⟩)⟩⟩))⟩
 refine .d (sE h (fun aha h => ?_) (fun aha h => ?_))
 exact .d ⟨rfl, ⟨rfl, _, rfl, (bk h fun Zu Ud h => ⟨ay Ud, Zu, az Ud, (bk h fun Zv Ue h => ⟨ay Ue, Zv, az Ue, (eS h)⟩)⟩)⟩⟩
 refine .d (sE h (fun ahb h => ?_) (fun ahb h => ?_))
 refine .d (.float [(0, true), (1, true), (2, true), (3, true), (4, true), (5, true), (6, true), (7, true), (8, true), (9, false), (10, true), (11, true), (12, true)] avs ?_)
 refine bk h fun Zw Uf h => ⟨ay Uf, Zw, az Uf, ⟨rfl, ⟨rfl, _, rfl, (bk h fun Zx Ug h => ⟨ay Ug, Zx, az Ug, (bk h fun Zy Uh h => ⟨ay Uh, Zy, az Uh, (bk h fun Zz Ui h => ⟨aA Ui, _, (ax Ui).trans (ae.au Zz), (bk h fun afx ahc h => (aR (yG _ _ ahc) ⟨rfl, ⟨rfl, (bk h fun ZA Uj h => ?_)⟩⟩))⟩)⟩)⟩)⟩⟩⟩
 exact ⟨ay Uj, ZA, az Uj, (bk h fun ZB Uk h => ⟨ay Uk, ZB, az Uk, (eS h)⟩)⟩
 refine .d ⟨rfl, ⟨rfl, _, rfl, (bk h fun ZC Ul h => ⟨ay Ul, ZC, az Ul, (.d (.d ⟨rfl, ⟨rfl, _, rfl, (sE h (fun ahd h => ?_) (fun ahd h => ?_))⟩⟩))⟩)⟩⟩
 refine .d ⟨rfl, ⟨rfl, _, rfl, (bk h fun Kb Um h => ⟨ay Um, Kb, az Um, (.d (sD h (fun ahe h => ?_) (fun ahe h => ?_)))⟩)⟩⟩
 refine .t (bk h fun ZD Un h => ⟨aA Un, _, (ax Un).trans (ae.au ZD), (.t (.t (.t (.t (sE h (fun ahf h => ?_) (fun ahf h => ?_))))))⟩)
 refine bk h fun ZE Uo h => ⟨ay Uo, ZE, az Uo, (bk h fun ZF Up h => ⟨aA Up, _, (ax Up).trans (ae.au ZF), (bk h fun ZG Uq h => ⟨ay Uq, ZG, az Uq, (.d (bk h fun ZH Ur h => ⟨ay Ur, ZH, az Ur, (bk h fun afy ahg h => (aR (yI _ _ ahg) (bk h fun ZI Us h => ⟨ay Us, ZI, az Us, (bk h fun ZJ Ut h => ⟨ay Ut, ZJ, az Ut, ?_⟩)⟩)))⟩))⟩)⟩)⟩
 exact eS h
 exact .d (bk h fun ZK BQ h => ⟨ay BQ, ZK, az BQ, (bk h fun zU KA h => (aR (yI _ _ KA) (bk h fun ZL Uu h => ⟨ay Uu, ZL, az Uu, (bk h fun ZM Uv h => ⟨ay Uv, ZM, az Uv, (eS h)⟩)⟩)))⟩)
 refine .f (.f (.f (.f (.f (.f (.d (bk h fun ZN Uw h => ⟨ay Uw, ZN, az Uw, (bk h fun afz ahh h => (aR (yI _ _ ahh) (bk h fun ZO Ux h => ⟨ay Ux, ZO, az Ux, (bk h fun ZP Uy h => ⟨ay Uy, ZP, az Uy, ?_⟩)⟩)))⟩)))))))
 exact eS h
 exact .d (bk h fun ZQ Uz h => ⟨ay Uz, ZQ, az Uz, (bk h fun afA ahi h => (aR (yI _ _ ahi) (bk h fun ZR UA h => ⟨ay UA, ZR, az UA, (bk h fun ZS UB h => ⟨ay UB, ZS, az UB, (eS h)⟩)⟩)))⟩)
 intro _ ahj a0 r h
 refine gq Tryz.func47 ?_
 refine .d (.d ?_)
 obtain ⟨Z9, ahk, ahl⟩ := bd h
 replace h := ahk
 refine .cut (fun σ η => ∃ J8, J8 = Z9 ∧ σ = [(3, .str J8)] ∧ η = []) ?_ ?_
 refine .d ?_
 have ahm := ahj _ _ _ _ h
 refine le (rf (motive := fun ahn iX gI aho => a0 = ahn → Z9 = aho → aG _ _ [(0, sl 4 ae.cells a0), (3, .str iX), (4, .int .i64 gI)] []) ?_ a0 [] 0 Z9 ahm rfl rfl) (tk [] ⟨.l, .s, .i, ⟨⟩⟩ ⟨⟩)
 intro _ ahp _ _ ahn iX gI aho h UC  Pq ahq
 subst Pq
 subst ahq
 refine aG.round (.d (.d (sD h (fun ahr h => ?_) (fun ahr h => ?_))))
 refine .d (.d (bk h fun Dx UD h => ⟨aA UD, _, (ax UD).trans (ae.au Dx), (sN h (fun ahs h => ?_) (fun ahs h => ?_))⟩))
 exact bk h fun Dy UE h => ⟨aA UE, _, (ax UE).trans (ae.au Dy), (bk h fun Gq aht h => (aR (ahp _ _ aht) (bk h fun Dz UF h => ⟨ay UF, Dz, az UF, (bk h fun DA UG h => ⟨ay UG, DA, az UG, (lg (UC _ _ _ _ h rfl rfl) (tk [] ⟨.l, .s, .i, ⟨⟩⟩ ⟨⟩))⟩)⟩)))⟩
 exact lg (UC _ _ _ _ h rfl rfl) (tk [] ⟨.l, .s, .i, ⟨⟩⟩ ⟨⟩)
 exact auX
 rintro _ _ ⟨J8, rfl, rfl, rfl⟩
 replace h := ahl
 exact .d (eS h)
 intro F0 F1 lQ lR a0 iX gI o h
 exact .mk F0 lQ F1 lR a0 iX gI o h
 intro F0 F1 lQ lR a0 jB iW o h
 exact .mk F0 lQ F1 lR a0 jB iW o h
 intro _ ahu a0 a1 r h
 refine gq Tryz.func90 ?_
 refine .d (.d ?_)
 obtain ⟨aaa, ahv, ahw⟩ := bd h
 replace h := ahv
 refine .cut (fun σ η => ∃ J5, J5 = aaa ∧ σ = [(5, .str J5)] ∧ η = []) ?_ ?_
 refine .d ?_
 have ahx := ahu _ _ _ _ _ h
 refine le (qZ (motive := fun ahy ahz iV fP ahA => a0 = ahy → a1 = ahz → aaa = ahA → aG _ _ [(0, sl 4 ae.cells a0), (1, .int .i64 a1), (5, .str iV), (6, .int .i64 fP)] []) ?_ a0 a1 [] a1 aaa ahx rfl rfl rfl) (tk [] ⟨.l, .i, .s, .i, ⟨⟩⟩ ⟨⟩)
 intro _ UH _ _ ahy ahz iV fP ahA h UI  Pr Ps ahB
 subst Pr
 subst Ps
 subst ahB
 refine aG.round (.d (.d (sD h (fun KB h => ?_) (fun KB h => ?_))))
 refine .d (.d (.d (sD h (fun ahC h => ?_) (fun ahC h => ?_))))
 exact bk h fun Ds UJ h => ⟨ay UJ, Ds, az UJ, (bk h fun wo BR h => ⟨aA BR, _, (ax BR).trans (ae.au wo), (bk h fun zV KC h => (aR (UH _ _ _ KC) (bk h fun Dt UK h => ⟨ay UK, Dt, az UK, (lg (UI _ _ _ _ _ h rfl rfl rfl) (tk [] ⟨.l, .i, .s, .i, ⟨⟩⟩ ⟨⟩))⟩)))⟩)⟩
 exact bk h fun Du UL h => ⟨aA UL, _, (ax UL).trans (ae.au Du), (bk h fun Gp ahD h => (aR (UH _ _ _ ahD) (bk h fun Dv UM h => ⟨ay UM, Dv, az UM, (lg (UI _ _ _ _ _ h rfl rfl rfl) (tk [] ⟨.l, .i, .s, .i, ⟨⟩⟩ ⟨⟩))⟩)))⟩
 exact auX
 rintro _ _ ⟨J5, rfl, rfl, rfl⟩
 replace h := ahw
 exact .d (bk h fun Yo UN h => ⟨ay UN, Yo, az UN, (bk h fun Yp UO h => ⟨ay UO, Yp, az UO, (eS h)⟩)⟩)
 intro F0 F1 lQ lR a0 a1 iV fP o h
 exact .mk F0 lQ F1 lR a0 a1 iV fP o h
 intro _ oG a0 a1 a2 a3 r h
 refine gq Tryz.func87 ?_
 refine .d (.d (.float [(0, true), (1, true), (2, true), (3, true), (4, true), (6, true), (8, true), (9, true), (10, true), (11, true), (12, true), (5, false), (7, true), (13, false), (14, true), (15, true)] avs ?_))
 refine ⟨rfl, ⟨rfl, _, rfl, (bk h fun Yq UP h => ⟨aA UP, _, (ax UP).trans (ae.au Yq), ⟨rfl, ⟨rfl, _, rfl, (bk h fun De Bu h => ⟨aA Bu, _, (ax Bu).trans (ae.au De), (bk h fun IZ JF h => (aR (oG _ _ _ JF) ⟨rfl, ⟨rfl, (bk h fun Yr UQ h => ⟨ay UQ, Yr, az UQ, (bk h fun afj ahE h => ?_)⟩)⟩⟩))⟩)⟩⟩⟩)⟩⟩
 exact aR (oG _ _ _ ahE) (bk h fun Ys yD h => ⟨ay yD, Ys, az yD, (eS h)⟩)
 intro F0 F1 lQ lR a0 oW lJ o h
 exact .mk F0 lQ F1 lR a0 oW lJ o h
theorem zX {a0 : List ae} {r : aq} (h : eX a0 = some r) : ACall Tryz.prog 47 [sl 4 ae.cells a0] [] (fun res h => res = .str r ∧ h = []) := zW.2.2.2.2.1 a0 r h
def im (a0 : ae) : Option (aq) :=
 kl a0 >>= fun v1 =>
 (if v1 = true then
 eX a0.ah >>= fun v4 =>
 aI [60, 63, 32] v4 >>= fun s6 =>
 some s6
 else
 some [])
theorem tG {a0 : ae} {r : aq} (h : im a0 = some r) : ACall Tryz.prog 17 [.agg a0.lit] [] (fun res h => res = .str r ∧ h = []) := by
 refine gq Tryz.func17 ?_
 unfold im at h
 refine .d (.d (.d ⟨rfl, _, rfl, (bk h fun v1 mq h => (aR (xV mq) (jV h (fun oV h => ?_) (fun oV h => ?_))))⟩))
 exact .d (eS h)
 exact .d ⟨rfl, ⟨rfl, _, rfl, (bk h fun v4 vW h => (aR (zX vW) (bk h fun s6 hx7 h => ⟨ay hx7, s6, az hx7, (eS h)⟩)))⟩⟩
theorem ACall.ext {P : Program} {f : FuncId} {args : List PV} {r : PV} (va : ahF P f)
  (H : ∀ (w : World) (vs : Array Value) (S : Nat → Prop), OR S w → (∀ b, S b → b < w.heap.size) → vs.size = args.length → (∀ (j : Nat) (pv : PV), args[j]? = some pv → ∃ v, vs[j]? = some v ∧ aF S w pv v) →
   Calls P f vs w (fun e w' => ∃ v, e = .returned v ∧ (∀ μ h S w, aZ μ h S w r v) ∧ Below w.heap.size w w'))
  (hp : args.all sg = true) (h : List ar) : ACall P f args h (fun res h' => res = r ∧ h' = h) := by
 refine ⟨va, fun w vs μ S hH hM fQ ha => (H w vs S hM.known hM.slt fQ (fun j pv hj => ?_)).mono ?_⟩
 ·obtain ⟨v, h1, h2⟩ := ha j pv hj
  have h3 := asH.1 hp pv (asP hj)
  cases pv <;> first | exact ⟨v, h1, h2⟩ | (simp [sg] at h3)
 ·rintro e w' ⟨v, rfl, hv, hb⟩
  have ag : bK w w' := ⟨hb.block, hb.size, hb.os, hb.tape, hb.output⟩
  exact ⟨v, r, h, μ, S, rfl, ⟨rfl, rfl⟩, hv _ _ _ _, hH.agree ag hM, hM.agree ag, Fr.sh ag⟩
theorem KD {vs : Array Value} {a : Value} (hs : vs.size = 1) (h0 : vs[0]? = some a) : vs = #[a] := by
 obtain ⟨l⟩ := vs
 rcases l with _ | ⟨b, _ | ⟨c, l⟩⟩ <;> simp at hs
 simp at h0; subst h0; rfl
theorem UR {vs : Array Value} {a b : Value} (hs : vs.size = 2) (h0 : vs[0]? = some a) (h1 : vs[1]? = some b) : vs = #[a, b] := by
 obtain ⟨l⟩ := vs
 rcases l with _ | ⟨x, _ | ⟨y, _ | ⟨z, l⟩⟩⟩ <;> simp at hs
 simp at h0 h1; subst h0; subst h1; rfl
theorem aab {P : Program} {w : World} {n : String} {g : Nat} {cs : Array Value} {t : TypeId} {z : Nat × Nat} (hg : P.globalNamed n = some g) (h : w.heap[g]? = some (.cells cs t z)) : w.var? P n = some cs := by
 unfold World.var?
 rw [hg]
 simp [h]
theorem aac : Tryz.prog.globalNamed "internal/strconv.uint64pow10" = some 1 := by kernel_rfl
theorem KE : Lib.pow10Tab = BS := by decide
theorem Pt {S : Nat → Prop} {w : World} (h : OR S w) : Lib.TabIs Tryz.prog w "internal/strconv.uint64pow10" .u64 Lib.pow10Tab := by
 obtain ⟨_, t, z, hh⟩ := h.1 (1, _) (by simp [zY]; rfl)
 unfold Lib.TabIs
 rw [aab aac hh, KE]
theorem EW {S : Nat → Prop} {w : World} (h : OR S w) : ∃ m, w.cell? ⟨0, 0, none⟩ = some (.int .i64 m) := by
 obtain ⟨_, m, t, z, hh⟩ := h.2.2 0 (by simp [zZ])
 exact ⟨m, by simp [World.cell?, hh]⟩
theorem DC (w : World) (k : Nat) (os : Array Obj) : Below w.heap.size w (Sort.grow (w.drewN k) os) := by
 refine ⟨rfl, rfl, rfl, ?_, fun i hi => ?_⟩
 ·show w.heap.size ≤ (w.heap ++ os).size
  simp
 ·show (w.heap ++ os)[i]? = w.heap[i]?
  rw [atp hi]
theorem Pu (n : Int) (h0 : -9223372036854775808 ≤ n) (h1 : n ≤ 9223372036854775807) (h : List ar) : ACall Tryz.prog 201 [.int .i64 n] h (fun res h' => res = .str (Lib.itoa n) ∧ h' = h) := by
 refine ACall.ext ⟨_, _, Tryz.func201, rfl, by kernel_rfl⟩ (fun w vs S ha hS fQ hj => ?_) rfl h
 obtain ⟨v, hv, hp⟩ := hj 0 _ rfl
 cases hp
 obtain rfl := KD fQ hv
 refine (Tryz.strconv_Itoa n h0 h1 w (Pt ha)).mono ?_
 rintro e w' ⟨rfl, k, os, rfl⟩
 exact ⟨_, rfl, fun _ _ _ _ => .str _, DC _ _ _⟩
theorem BT (s sub : List UInt8) (hs : s.length < 4294967281) (h : List ar) : ACall Tryz.prog 136 [.str s, .str sub] h (fun res h' => res = .bool (decide (0 ≤ Lib.index s sub)) ∧ h' = h) := by
 refine ACall.ext ⟨_, _, Tryz.func136, rfl, by kernel_rfl⟩ (fun w vs S ha hS fQ hj => ?_) rfl h
 obtain ⟨v, hv, hp⟩ := hj 0 _ rfl
 cases hp
 obtain ⟨v', hv', vb⟩ := hj 1 _ rfl
 cases vb
 obtain rfl := UR fQ hv hv'
 obtain ⟨m, hm⟩ := EW ha
 refine (Tryz.strings_Contains ⟨⟨s⟩⟩ ⟨⟨sub⟩⟩ m w hs hm).mono ?_
 rintro e w' ⟨rfl, rfl⟩
 exact ⟨_, rfl, fun _ _ _ _ => .bool _, Below.refl _ _⟩
theorem aad (s sep : List UInt8) (hs : s.length < 4294967281) (h : List ar) : ACall Tryz.prog 198 [.str s, .str sep] h (fun res h' => res = .aV [.str (Lib.cut s sep).1, .str (Lib.cut s sep).2.1, .bool (Lib.cut s sep).2.2] ∧ h' = h) := by
 refine ACall.ext ⟨_, _, Tryz.func198, rfl, by kernel_rfl⟩ (fun w vs S ha hS fQ hj => ?_) rfl h
 obtain ⟨v, hv, hp⟩ := hj 0 _ rfl
 cases hp
 obtain ⟨v', hv', vb⟩ := hj 1 _ rfl
 cases vb
 obtain rfl := UR fQ hv hv'
 obtain ⟨m, hm⟩ := EW ha
 refine (Tryz.strings_Cut ⟨⟨s⟩⟩ ⟨⟨sep⟩⟩ m w hs hm).mono ?_
 rintro e w' ⟨rfl, n, rfl⟩
 refine ⟨_, rfl, fun μ h S w' => ⟨_, rfl, rfl, fun j pv hj => ?_⟩, ?_⟩
 ·match j with
  | 0 => cases hj; exact ⟨_, rfl, .str _⟩
  | 1 => cases hj; exact ⟨_, rfl, .str _⟩
  | 2 => cases hj; exact ⟨_, rfl, .bool _⟩
  | j + 3 => simp at hj
 ·exact ⟨rfl, rfl, rfl, asA _, fun _ _ => rfl⟩
def m73 (n : Int) : Option aq := if -9223372036854775808 ≤ n ∧ n ≤ 9223372036854775807 then some (Lib.itoa n) else none
theorem apV {n : Int} {r : aq} (h : m73 n = some r) : ACall Tryz.prog 201 [.int .i64 n] [] (fun res h => res = .str r ∧ h = []) := by
 obtain ⟨⟨h0, h1⟩, rfl⟩ := bB h
 exact Pu n h0 h1 []
def kn (s p : aq) : Option Bool := if s.length < 4294967281 then some (decide (0 ≤ Lib.index s p)) else none
theorem rh {s p : aq} {r : Bool} (h : kn s p = some r) : ACall Tryz.prog 136 [.str s, .str p] [] (fun res h => res = .bool r ∧ h = []) := by
 obtain ⟨h0, rfl⟩ := bB h
 exact BT s p h0 []
def nX (s p : aq) : Option (aq × aq × Bool) := if s.length < 4294967281 then some (Lib.cut s p) else none
theorem xY {s p : aq} {r : aq × aq × Bool} (h : nX s p = some r) : ACall Tryz.prog 198 [.str s, .str p] [] (fun res h => res = .aV [.str r.1, .str r.2.1, .bool r.2.2] ∧ h = []) := by
 obtain ⟨h0, rfl⟩ := bB h
 exact aad s p h0 []
end Go.Am
