/- Texts of the proof, joined and shortened. -/
import Derived.Test.YtiigfbapjeefbaaGreatDoorPk4
import Derived.Test.YtiigfbapjeefbaaGreatDoorShelf
import Derived.WalkKit
import Derived.BigCall
set_option linter.unusedVariables false
set_option linter.unusedSimpArgs false
namespace Go.Am
open Go Go.RowKit Go.Proofs
mutual
def fZ (a0 : ae) : Option (Int) :=
 (
 eN a0 0 0
 : Option (Int)) >>= fun y1 =>
 some (aU (y1 + 1))
partial_fixpoint
def eN (a0 : ae) (y5 : Int) (y6 : Int) : Option (Int) :=
 (if y6 < (a0.ah.length : Int) then
 idx a0.ah y6 >>= fun qe =>
 fZ qe >>= fun oD =>
 Vk y5 oD >>= fun wI =>
 eN a0 wI (aU (y6 + 1))
 else
 some y5)
partial_fixpoint
end
def DG (a0 : ae) (r : Int) : Prop := ACall Tryz.prog 30 [.agg a0.lit] [] (fun res h => res = .int .i64 r ∧ h = [])
inductive cE : ae → Int → Int → (Int) → Prop
 | mk (G30 : ae → Option (Int)) (anj : ∀ a0 r, G30 a0 = some r → DG a0 r) (dw : ae → Int → Int → Option (Int)) (pP : ∀ a0 y5 y6 o, dw a0 y5 y6 = some o → cE a0 y5 y6 o) (a0 : ae) (y5 : Int) (y6 : Int) (o : Int) (h : (
 (if y6 < (a0.ah.length : Int) then
 idx a0.ah y6 >>= fun qe =>
 G30 qe >>= fun oD =>
 Vk y5 oD >>= fun wI =>
 dw a0 wI (aU (y6 + 1))
 else
 some y5)
 ) = some o) : cE a0 y5 y6 o
theorem oE {motive : ae → Int → Int → (Int) → Prop} (step : ∀ (G30 : ae → Option (Int)) (anj : ∀ a0 r, G30 a0 = some r → DG a0 r) (dw : ae → Int → Int → Option (Int)) (pP : ∀ a0 y5 y6 o, dw a0 y5 y6 = some o → cE a0 y5 y6 o) (a0 : ae) (y5 : Int) (y6 : Int) (o : Int) (h : (
 (if y6 < (a0.ah.length : Int) then
 idx a0.ah y6 >>= fun qe =>
 G30 qe >>= fun oD =>
 Vk y5 oD >>= fun wI =>
 dw a0 wI (aU (y6 + 1))
 else
 some y5)
 ) = some o) (ih : ∀ a0 y5 y6 o, dw a0 y5 y6 = some o → motive a0 y5 y6 o), motive a0 y5 y6 o) : ∀ a0 y5 y6 o, cE a0 y5 y6 o → motive a0 y5 y6 o :=
 fun a0 y5 y6 o h => cE.rec (motive := fun a0 y5 y6 o _ => motive a0 y5 y6 o) step h
theorem sC : (∀ a0 r, fZ a0 = some r → DG a0 r) ∧ (∀ a0 y5 y6 o, eN a0 y5 y6 = some o → cE a0 y5 y6 o) := by
 refine fZ.mutual_partial_correctness DG cE ?_ ?_
 intro _ Vl a0 r h
 refine gd Tryz.func30 ?_
 refine .d (.d ?_)
 obtain ⟨o2, uI, uJ⟩ := bd h
 replace h := uI
 refine .cut (fun σ η => ∃ y1, y1 = o2 ∧ σ = [(3, .int .i64 y1)] ∧ η = []) ?_ ?_
 refine .d ?_
 have Vm := Vl _ _ _ _ h
 refine le (oE (motive := fun p19 y5 y6 o17 => a0 = p19 → o2 = o17 → aG _ _ [(1, .aL 0 0 0 0), (3, .int .i64 y5), (4, .int .i64 y6)] [.row 0 4 1 29 (fun _ => a0.lit)]) ?_ a0 0 0 o2 Vm rfl rfl) (tk [0] ⟨.p, .i, .i, ⟨⟩⟩ ⟨(cF rfl), ⟨⟩⟩)
 intro _ Vn _ _ p19 y5 y6 o17 h yw  B7 Vo
 subst B7
 subst Vo
 refine aG.round (.d (.d ⟨rfl, ⟨rfl, _, rfl, (sD h (fun lT h => ?_) (fun lT h => ?_))⟩⟩))
 exact .d ⟨rfl, ⟨rfl, _, rfl, (bk h fun qe uK h => ⟨aA uK, _, (ax uK).trans (ae.au qe), (bk h fun oD qf h => (aS (Vn _ _ qf) (bk h fun wI B8 h => (aS (ank B8) (lg (yw _ _ _ _ h rfl rfl) (tk [0] ⟨.p, .i, .i, ⟨⟩⟩ ⟨(cF rfl), ⟨⟩⟩))))))⟩)⟩⟩
 exact ati
 exact asR
 exact asV
theorem uL {a0 : ae} {r : Int} (h : fZ a0 = some r) : ACall Tryz.prog 30 [.agg a0.lit] [] (fun res h => res = .int .i64 r ∧ h = []) := sC.1 a0 r h
mutual
def gK (a0 : ae) : Option (Int) :=
 (
 fD a0 1 0
 : Option (Int)) >>= fun y1 =>
 some y1
partial_fixpoint
def fD (a0 : ae) (y5 : Int) (y6 : Int) : Option (Int) :=
 (if y6 < (a0.ah.length : Int) then
 idx a0.ah y6 >>= fun qe =>
 gK qe >>= fun oD =>
 fD a0 (aU (y5 + oD)) (aU (y6 + 1))
 else
 some y5)
partial_fixpoint
end
def yx (a0 : ae) (r : Int) : Prop := ACall Tryz.prog 131 [.agg a0.lit] [] (fun res h => res = .int .i64 r ∧ h = [])
inductive c8 : ae → Int → Int → (Int) → Prop
 | mk (Hb : ae → Option (Int)) (aa8 : ∀ a0 r, Hb a0 = some r → yx a0 r) (dY : ae → Int → Int → Option (Int)) (qg : ∀ a0 y5 y6 o, dY a0 y5 y6 = some o → c8 a0 y5 y6 o) (a0 : ae) (y5 : Int) (y6 : Int) (o : Int) (h : (
 (if y6 < (a0.ah.length : Int) then
 idx a0.ah y6 >>= fun qe =>
 Hb qe >>= fun oD =>
 dY a0 (aU (y5 + oD)) (aU (y6 + 1))
 else
 some y5)
 ) = some o) : c8 a0 y5 y6 o
theorem pQ {motive : ae → Int → Int → (Int) → Prop} (step : ∀ (Hb : ae → Option (Int)) (aa8 : ∀ a0 r, Hb a0 = some r → yx a0 r) (dY : ae → Int → Int → Option (Int)) (qg : ∀ a0 y5 y6 o, dY a0 y5 y6 = some o → c8 a0 y5 y6 o) (a0 : ae) (y5 : Int) (y6 : Int) (o : Int) (h : (
 (if y6 < (a0.ah.length : Int) then
 idx a0.ah y6 >>= fun qe =>
 Hb qe >>= fun oD =>
 dY a0 (aU (y5 + oD)) (aU (y6 + 1))
 else
 some y5)
 ) = some o) (ih : ∀ a0 y5 y6 o, dY a0 y5 y6 = some o → motive a0 y5 y6 o), motive a0 y5 y6 o) : ∀ a0 y5 y6 o, c8 a0 y5 y6 o → motive a0 y5 y6 o :=
 fun a0 y5 y6 o h => c8.rec (motive := fun a0 y5 y6 o _ => motive a0 y5 y6 o) step h
theorem tV : (∀ a0 r, gK a0 = some r → yx a0 r) ∧ (∀ a0 y5 y6 o, fD a0 y5 y6 = some o → c8 a0 y5 y6 o) := by
 refine gK.mutual_partial_correctness yx c8 ?_ ?_
 intro _ anl a0 r h
 refine gd Tryz.func131 ?_
 refine .d (.d ?_)
 obtain ⟨o2, uI, uJ⟩ := bd h
 replace h := uI
 refine .cut (fun σ η => ∃ y1, y1 = o2 ∧ σ = [(3, .int .i64 y1)] ∧ η = []) ?_ ?_
 refine .d ⟨rfl, ⟨rfl, _, rfl, ?_⟩⟩
 have anm := anl _ _ _ _ h
 refine le (pQ (motive := fun p17 y5 y6 o15 => a0 = p17 → o2 = o15 → aG _ _ [(3, .int .i64 y5), (7, sl 4 ae.cells a0.ah), (8, .int .i64 (a0.ah.length : Int)), (9, .int .i64 y6)] []) ?_ a0 1 0 o2 anm rfl rfl) (tk [] ⟨.i, .l, .i, .i, ⟨⟩⟩ ⟨⟩)
 intro _ Vn _ _ p17 y5 y6 o15 h yw  Vp Vq
 subst Vp
 subst Vq
 refine aG.round (.d (.d (sD h (fun lT h => ?_) (fun lT h => ?_))))
 exact .d (.d (bk h fun qe uK h => ⟨aA uK, _, (ax uK).trans (ae.au qe), ⟨rfl, _, fun _ => [.int .i64 qe.ai, .int .i64 qe.aD, .str qe.aj, sl 4 ae.cells qe.ah], rfl, bX rfl, ⟨rfl, _, rfl, (bk h fun oD qf h => (aS (Vn _ _ qf) (lg (yw _ _ _ _ h rfl rfl) (tk [] ⟨.i, .l, .i, .i, ⟨⟩⟩ ⟨⟩))))⟩⟩⟩))
 exact ati
 exact asR
 exact asV
theorem wL {a0 : ae} {r : Int} (h : gK a0 = some r) : ACall Tryz.prog 131 [.agg a0.lit] [] (fun res h => res = .int .i64 r ∧ h = []) := tV.1 a0 r h
mutual
def gf (a0 : ae) : Option (Int) :=
 (
 eO a0 0 0
 : Option (Int)) >>= fun y1 =>
 some (aU (y1 + 1))
partial_fixpoint
def eO (a0 : ae) (y5 : Int) (y6 : Int) : Option (Int) :=
 (if y6 < (a0.ah.length : Int) then
 idx a0.ah y6 >>= fun qe =>
 gf qe >>= fun oD =>
 Vr y5 oD >>= fun wI =>
 eO a0 wI (aU (y6 + 1))
 else
 some y5)
partial_fixpoint
end
def yy (a0 : ae) (r : Int) : Prop := ACall Tryz.prog 132 [.agg a0.lit] [] (fun res h => res = .int .i64 r ∧ h = [])
inductive cG : ae → Int → Int → (Int) → Prop
 | mk (Hc : ae → Option (Int)) (aa9 : ∀ a0 r, Hc a0 = some r → yy a0 r) (dx : ae → Int → Int → Option (Int)) (pR : ∀ a0 y5 y6 o, dx a0 y5 y6 = some o → cG a0 y5 y6 o) (a0 : ae) (y5 : Int) (y6 : Int) (o : Int) (h : (
 (if y6 < (a0.ah.length : Int) then
 idx a0.ah y6 >>= fun qe =>
 Hc qe >>= fun oD =>
 Vr y5 oD >>= fun wI =>
 dx a0 wI (aU (y6 + 1))
 else
 some y5)
 ) = some o) : cG a0 y5 y6 o
theorem oF {motive : ae → Int → Int → (Int) → Prop} (step : ∀ (Hc : ae → Option (Int)) (aa9 : ∀ a0 r, Hc a0 = some r → yy a0 r) (dx : ae → Int → Int → Option (Int)) (pR : ∀ a0 y5 y6 o, dx a0 y5 y6 = some o → cG a0 y5 y6 o) (a0 : ae) (y5 : Int) (y6 : Int) (o : Int) (h : (
 (if y6 < (a0.ah.length : Int) then
 idx a0.ah y6 >>= fun qe =>
 Hc qe >>= fun oD =>
 Vr y5 oD >>= fun wI =>
 dx a0 wI (aU (y6 + 1))
 else
 some y5)
 ) = some o) (ih : ∀ a0 y5 y6 o, dx a0 y5 y6 = some o → motive a0 y5 y6 o), motive a0 y5 y6 o) : ∀ a0 y5 y6 o, cG a0 y5 y6 o → motive a0 y5 y6 o :=
 fun a0 y5 y6 o h => cG.rec (motive := fun a0 y5 y6 o _ => motive a0 y5 y6 o) step h
theorem sF : (∀ a0 r, gf a0 = some r → yy a0 r) ∧ (∀ a0 y5 y6 o, eO a0 y5 y6 = some o → cG a0 y5 y6 o) := by
 refine gf.mutual_partial_correctness yy cG ?_ ?_
 intro _ Vl a0 r h
 refine gd Tryz.func132 ?_
 refine .d (.d ?_)
 obtain ⟨o2, uI, uJ⟩ := bd h
 replace h := uI
 refine .cut (fun σ η => ∃ y1, y1 = o2 ∧ σ = [(3, .int .i64 y1)] ∧ η = []) ?_ ?_
 refine .d ⟨rfl, ⟨rfl, _, rfl, ?_⟩⟩
 have Vm := Vl _ _ _ _ h
 refine le (oF (motive := fun p19 y5 y6 o17 => a0 = p19 → o2 = o17 → aG _ _ [(3, .int .i64 y5), (7, sl 4 ae.cells a0.ah), (8, .int .i64 (a0.ah.length : Int)), (9, .int .i64 y6)] []) ?_ a0 0 0 o2 Vm rfl rfl) (tk [] ⟨.i, .l, .i, .i, ⟨⟩⟩ ⟨⟩)
 intro _ Vn _ _ p19 y5 y6 o17 h yw  B7 Vo
 subst B7
 subst Vo
 refine aG.round (.d (.d (sD h (fun lT h => ?_) (fun lT h => ?_))))
 exact .d (.d (bk h fun qe uK h => ⟨aA uK, _, (ax uK).trans (ae.au qe), ⟨rfl, _, fun _ => [.int .i64 qe.ai, .int .i64 qe.aD, .str qe.aj, sl 4 ae.cells qe.ah], rfl, bX rfl, ⟨rfl, _, rfl, (bk h fun oD qf h => (aS (Vn _ _ qf) (bk h fun wI B8 h => (aS (ann B8) (lg (yw _ _ _ _ h rfl rfl) (tk [] ⟨.i, .l, .i, .i, ⟨⟩⟩ ⟨⟩))))))⟩⟩⟩))
 exact ati
 exact asR
 exact asV
theorem uM {a0 : ae} {r : Int} (h : gf a0 = some r) : ACall Tryz.prog 132 [.agg a0.lit] [] (fun res h => res = .int .i64 r ∧ h = []) := sF.1 a0 r h
mutual
def iI (a0 : ae) (a1 : Int) : Option (Int) :=
 (
 gu a0 (aU (a1 - 1)) 0
 : Option (Int)) >>= fun y1 =>
 some y1
partial_fixpoint
def gu (a0 : ae) (y5 : Int) (y6 : Int) : Option (Int) :=
 (if y6 < (a0.ah.length : Int) then
 (if y5 ≥ 0 then
 idx a0.ah y6 >>= fun Vs =>
 iI Vs y5 >>= fun v14 =>
 gu a0 v14 (aU (y6 + 1))
 else
 some y5)
 else
 some y5)
partial_fixpoint
end
def yz (a0 : ae) (a1 : Int) (r : Int) : Prop := ACall Tryz.prog 145 [.agg a0.lit, .int .i64 a1] [] (fun res h => res = .int .i64 r ∧ h = [])
inductive dy : ae → Int → Int → (Int) → Prop
 | mk (Hd : ae → Int → Option (Int)) (aba : ∀ a0 a1 r, Hd a0 a1 = some r → yz a0 a1 r) (eP : ae → Int → Int → Option (Int)) (qY : ∀ a0 y5 y6 o, eP a0 y5 y6 = some o → dy a0 y5 y6 o) (a0 : ae) (y5 : Int) (y6 : Int) (o : Int) (h : (
 (if y6 < (a0.ah.length : Int) then
 (if y5 ≥ 0 then
 idx a0.ah y6 >>= fun Vs =>
 Hd Vs y5 >>= fun v14 =>
 eP a0 v14 (aU (y6 + 1))
 else
 some y5)
 else
 some y5)
 ) = some o) : dy a0 y5 y6 o
theorem qh {motive : ae → Int → Int → (Int) → Prop} (step : ∀ (Hd : ae → Int → Option (Int)) (aba : ∀ a0 a1 r, Hd a0 a1 = some r → yz a0 a1 r) (eP : ae → Int → Int → Option (Int)) (qY : ∀ a0 y5 y6 o, eP a0 y5 y6 = some o → dy a0 y5 y6 o) (a0 : ae) (y5 : Int) (y6 : Int) (o : Int) (h : (
 (if y6 < (a0.ah.length : Int) then
 (if y5 ≥ 0 then
 idx a0.ah y6 >>= fun Vs =>
 Hd Vs y5 >>= fun v14 =>
 eP a0 v14 (aU (y6 + 1))
 else
 some y5)
 else
 some y5)
 ) = some o) (ih : ∀ a0 y5 y6 o, eP a0 y5 y6 = some o → motive a0 y5 y6 o), motive a0 y5 y6 o) : ∀ a0 y5 y6 o, dy a0 y5 y6 o → motive a0 y5 y6 o :=
 fun a0 y5 y6 o h => dy.rec (motive := fun a0 y5 y6 o _ => motive a0 y5 y6 o) step h
theorem uN : (∀ a0 a1 r, iI a0 a1 = some r → yz a0 a1 r) ∧ (∀ a0 y5 y6 o, gu a0 y5 y6 = some o → dy a0 y5 y6 o) := by
 refine iI.mutual_partial_correctness yz dy ?_ ?_
 intro _ ano a0 a1 r h
 refine gd Tryz.func145 ?_
 refine .d (.d ?_)
 obtain ⟨o2, uI, uJ⟩ := bd h
 replace h := uI
 refine .cut (fun σ η => ∃ y1, y1 = o2 ∧ σ = [(1, .int .i64 y1)] ∧ η = []) ?_ ?_
 refine .d ?_
 have anp := ano _ _ _ _ h
 refine le (qh (motive := fun p18 y5 y6 o16 => a0 = p18 → o2 = o16 → aG _ _ [(1, .int .i64 y5), (2, .aL 0 0 0 0), (5, .int .i64 y6)] [.row 0 4 1 29 (fun _ => a0.lit)]) ?_ a0 (aU (a1 - 1)) 0 o2 anp rfl rfl) (tk [0] ⟨.i, .p, .i, ⟨⟩⟩ ⟨(cF rfl), ⟨⟩⟩)
 intro _ Vn _ _ p18 y5 y6 o16 h yw  Vt Vu
 subst Vt
 subst Vu
 refine aG.round (.d (.d ⟨rfl, ⟨rfl, _, rfl, (sD h (fun lT h => ?_) (fun lT h => ?_))⟩⟩))
 refine .t (.t (sD h (fun qZ h => ?_) (fun qZ h => ?_)))
 exact .d ⟨rfl, ⟨rfl, _, rfl, (bk h fun Vs He h => ⟨aA He, _, (ax He).trans (ae.au Vs), (bk h fun v14 anq h => (aS (Vn _ _ _ anq) (lg (yw _ _ _ _ h rfl rfl) (tk [0] ⟨.i, .p, .i, ⟨⟩⟩ ⟨(cF rfl), ⟨⟩⟩))))⟩)⟩⟩
 exact ati
 exact .f (.f (.f (ct ⟨_, si h, rfl, rfl⟩ (tk [] ⟨.i, ⟨⟩⟩ ⟨⟩))))
 exact asR
 exact asV
theorem yA {a0 : ae} {a1 : Int} {r : Int} (h : iI a0 a1 = some r) : ACall Tryz.prog 145 [.agg a0.lit, .int .i64 a1] [] (fun res h => res = .int .i64 r ∧ h = []) := uN.1 a0 a1 r h
def jq (a0 : ae) : Option (Bool) :=
 gK a0 >>= fun v1 =>
 (if v1 ≤ 600 then
 gf a0 >>= fun v4 =>
 some (decide (v4 ≤ 30))
 else
 some false)
theorem uO {a0 : ae} {r : Bool} (h : jq a0 = some r) : ACall Tryz.prog 66 [.agg a0.lit] [] (fun res h => res = .bool r ∧ h = []) := by
 refine gd Tryz.func66 ?_
 unfold jq at h
 refine .d (.d ⟨rfl, _, rfl, (bk h fun v1 lz h => (aS (wL lz) (sD h (fun ow h => ?_) (fun ow h => ?_))))⟩)
 exact ⟨rfl, _, rfl, (.t (bk h fun v4 uP h => (aS (uM uP) (.t (.t (eB h))))))⟩
 exact atm
def jV (a0 : ae) : Option (Bool) :=
 iI a0 600 >>= fun v1 =>
 (if v1 ≥ 0 then
 fZ a0 >>= fun v4 =>
 some (decide (v4 ≤ 30))
 else
 some false)
theorem wM {a0 : ae} {r : Bool} (h : jV a0 = some r) : ACall Tryz.prog 74 [.agg a0.lit] [] (fun res h => res = .bool r ∧ h = []) := by
 refine gd Tryz.func74 ?_
 unfold jV at h
 refine .d (.d ⟨rfl, _, rfl, (bk h fun v1 lz h => (aS (yA lz) (sD h (fun ow h => ?_) (fun ow h => ?_))))⟩)
 exact ⟨rfl, _, rfl, (.t (bk h fun v4 uP h => (aS (uL uP) (.t (.t (eB h))))))⟩
 exact atm
set_option maxRecDepth 100000
def dQ (a0 : List ae) (a1 : Bool) (NJ : Bool) (yB : Int) : Option ((Unit) ⊕ Bool) :=
 (if yB < (aU ((a0.length : Int) - 1)) then
 idx a0 yB >>= fun mL =>
 (
 (if mL.ai = 25 then
 some true
 else
 some NJ)
 : Option (Bool)) >>= fun Aa =>
 (if mL.ai = 24 then
 (if Aa = true then
 (if mL.ai = 25 then
 (if a1 = true then
 tW mL.aD 0 1 >>= fun uQ =>
 (if uQ = true then
 cc mL.aj >>= fun v168 =>
 (if v168 = true then
 (if (mL.ah.length : Int) > 0 then
 some (.inr false)
 else
 dQ a0 a1 Aa (aU (yB + 1)))
 else
 some (.inr false))
 else
 some (.inr false))
 else
 some (.inr false))
 else
 some (.inr false))
 else
 tW mL.aD 0 1 >>= fun abb =>
 (if abb = true then
 cc mL.aj >>= fun v159 =>
 (if v159 = true then
 (if (mL.ah.length : Int) > 0 then
 some (.inr false)
 else
 dQ a0 a1 Aa (aU (yB + 1)))
 else
 some (.inr false))
 else
 some (.inr false)))
 else
 (if mL.ai = 25 then
 (if a1 = true then
 tW mL.aD 0 1 >>= fun Ab =>
 (if Ab = true then
 cc mL.aj >>= fun abc =>
 (if abc = true then
 (if (mL.ah.length : Int) > 0 then
 some (.inr false)
 else
 dQ a0 a1 Aa (aU (yB + 1)))
 else
 some (.inr false))
 else
 some (.inr false))
 else
 some (.inr false))
 else
 some (.inr false)))
 else
 some (.inl ()))
partial_fixpoint
mutual
def aW (a0 : ae) : Option (Bool) :=
 cZ a0 >>= fun (v1, v2) =>
 (if v1 = true then
 (if v2 = true then
 ((
 (
 (if a0.ai = 1 then
 some (a0.ai == 1)
 else
 (if a0.ai = 2 then
 some (a0.ai == 2)
 else
 (if a0.ai = 3 then
 some (a0.ai == 3)
 else
 some (a0.ai == 4))))
 : Option (Bool)) >>= fun b9 =>
 (if b9 = true then
 some (.inr ((a0.ah.length : Int) == 0))
 else
 (if a0.ai = 5 then
 ((
 iJ a0 0
 : Option ((Unit) ⊕ ((Unit) ⊕ Bool))) >>= fun Hf => match Hf with
 | .inr r => some r
 | .inl _ =>
 some (.inr true)
 )
 else
 (
 (if a0.ai = 8 then
 some (a0.ai == 8)
 else
 some (a0.ai == 9))
 : Option (Bool)) >>= fun b46 =>
 (if b46 = true then
 (if (a0.ah.length : Int) = 1 then
 idx a0.ah 0 >>= fun Hg =>
 aW Hg >>= fun NK =>
 some (.inr NK)
 else
 some (.inr false))
 else
 (
 (if a0.ai = 7 then
 some (a0.ai == 7)
 else
 (if a0.ai = 10 then
 some (a0.ai == 10)
 else
 (if a0.ai = 11 then
 some (a0.ai == 11)
 else
 (if a0.ai = 12 then
 some (a0.ai == 12)
 else
 some (a0.ai == 13)))))
 : Option (Bool)) >>= fun b57 =>
 (if b57 = true then
 (if (a0.ah.length : Int) = 2 then
 dm a0.ah 0 >>= fun v67 =>
 some (.inr v67)
 else
 some (.inr false))
 else
 (if a0.ai = 14 then
 (if (a0.ah.length : Int) = 3 then
 dm a0.ah 0 >>= fun v71 =>
 some (.inr v71)
 else
 some (.inr false))
 else
 (
 (if a0.ai = 15 then
 some (a0.ai == 15)
 else
 some (a0.ai == 16))
 : Option (Bool)) >>= fun b73 =>
 (if b73 = true then
 (if (a0.ah.length : Int) = 2 then
 idx a0.ah 0 >>= fun x80 =>
 ia x80 >>= fun QF =>
 (if QF = true then
 dm a0.ah 0 >>= fun v85 =>
 some (.inr v85)
 else
 some (.inr false))
 else
 some (.inr false))
 else
 (if a0.ai = 17 then
 (if (a0.ah.length : Int) = 1 then
 idx a0.ah 0 >>= fun x89 =>
 (if x89.ai = 4 then
 idx a0.ah 0 >>= fun x92 =>
 aW x92 >>= fun v94 =>
 some (.inr v94)
 else
 some (.inr false))
 else
 some (.inr false))
 else
 (
 (if a0.ai = 18 then
 some (a0.ai == 18)
 else
 (if a0.ai = 21 then
 some (a0.ai == 21)
 else
 some (a0.ai == 22)))
 : Option (Bool)) >>= fun b96 =>
 (if b96 = true then
 dm a0.ah 0 >>= fun abd =>
 some (.inr abd)
 else
 (
 (if a0.ai = 19 then
 some (a0.ai == 19)
 else
 some (a0.ai == 20))
 : Option (Bool)) >>= fun Hh =>
 (if Hh = true then
 (if (a0.ah.length : Int) ≥ 1 then
 dm a0.ah 0 >>= fun Hi =>
 some (.inr Hi)
 else
 some (.inr false))
 else
 (if a0.ai = 23 then
 kI a0.ah true >>= fun Hj =>
 some (.inr Hj)
 else
 some (.inl ())))))))))))
 : Option ((Unit) ⊕ Bool)) >>= fun o6 => match o6 with
 | .inr r => some r
 | .inl _ =>
 some false
 )
 else
 some false)
 else
 some false)
partial_fixpoint
def dm (a0 : List ae) (a1 : Int) : Option (Bool) :=
 ((
 iK a0 a1
 : Option ((Unit) ⊕ Bool)) >>= fun Hk => match Hk with
 | .inr r => some r
 | .inl _ =>
 some true
 )
partial_fixpoint
def kI (a0 : List ae) (a1 : Bool) : Option (Bool) :=
 ((
 dQ a0 a1 false 0
 : Option ((Unit) ⊕ Bool)) >>= fun Hl => match Hl with
 | .inr r => some r
 | .inl _ =>
 (if (aU ((a0.length : Int) - 1)) ≥ 0 then
 idx a0 (aU ((a0.length : Int) - 1)) >>= fun Vv =>
 aT Vv >>= fun abe =>
 some abe
 else
 some false)
 )
partial_fixpoint
def aT (a0 : ae) : Option (Bool) :=
 (if a0.ai = 48 then
 (if a0.aD = 0 then
 (if a0.aj = ([] : ar) then
 ((
 gR a0 0
 : Option ((Unit) ⊕ Bool)) >>= fun Hm => match Hm with
 | .inr r => some r
 | .inl _ =>
 some true
 )
 else
 some false)
 else
 some false)
 else
 some false)
partial_fixpoint
def cP (a0 : ae) : Option (Bool) :=
 cZ a0 >>= fun (abf, abg) =>
 (if abf = true then
 (if abg = true then
 ((
 (
 (if a0.ai = 31 then
 some (a0.ai == 31)
 else
 (if a0.ai = 37 then
 some (a0.ai == 37)
 else
 (if a0.ai = 38 then
 some (a0.ai == 38)
 else
 (if a0.ai = 40 then
 some (a0.ai == 40)
 else
 some (a0.ai == 47)))))
 : Option (Bool)) >>= fun Hn =>
 (if Hn = true then
 some (.inr ((a0.ah.length : Int) == 0))
 else
 (
 (if a0.ai = 32 then
 some (a0.ai == 32)
 else
 (if a0.ai = 33 then
 some (a0.ai == 33)
 else
 some (a0.ai == 42)))
 : Option (Bool)) >>= fun Ho =>
 (if Ho = true then
 (if (a0.ah.length : Int) = 1 then
 idx a0.ah 0 >>= fun Vw =>
 aW Vw >>= fun abh =>
 some (.inr abh)
 else
 some (.inr false))
 else
 (if a0.ai = 39 then
 (if (a0.ah.length : Int) ≤ 1 then
 dm a0.ah 0 >>= fun abi =>
 some (.inr abi)
 else
 some (.inr false))
 else
 (if a0.ai = 41 then
 (if (a0.ah.length : Int) = 1 then
 idx a0.ah 0 >>= fun Vx =>
 ia Vx >>= fun abj =>
 (if abj = true then
 idx a0.ah 0 >>= fun Vy =>
 aW Vy >>= fun Hp =>
 some (.inr Hp)
 else
 some (.inr false))
 else
 some (.inr false))
 else
 (if a0.ai = 34 then
 tW (a0.ah.length : Int) 2 3 >>= fun abk =>
 (if abk = true then
 idx a0.ah 0 >>= fun Vz =>
 aW Vz >>= fun abl =>
 (if abl = true then
 idx a0.ah 1 >>= fun VA =>
 aT VA >>= fun yC =>
 (if yC = true then
 idx a0.ah (aU ((a0.ah.length : Int) - 1)) >>= fun VB =>
 aT VB >>= fun abm =>
 some (.inr abm)
 else
 some (.inr false))
 else
 some (.inr false))
 else
 some (.inr false))
 else
 (if a0.ai = 35 then
 (if (a0.ah.length : Int) = 2 then
 idx a0.ah 0 >>= fun VC =>
 aW VC >>= fun abn =>
 (if abn = true then
 idx a0.ah 1 >>= fun B9 =>
 aT B9 >>= fun Hq =>
 some (.inr Hq)
 else
 some (.inr false))
 else
 some (.inr false))
 else
 (if a0.ai = 36 then
 tW (a0.ah.length : Int) 3 4 >>= fun abo =>
 (if abo = true then
 G4 a0.ah (aU ((a0.ah.length : Int) - 1)) >>= fun NL =>
 dm NL 0 >>= fun abp =>
 (if abp = true then
 idx a0.ah 1 >>= fun k5 =>
 (if k5.ai = 4 then
 idx a0.ah (aU ((a0.ah.length : Int) - 2)) >>= fun VD =>
 (if VD.ai = 4 then
 idx a0.ah (aU ((a0.ah.length : Int) - 1)) >>= fun VE =>
 aT VE >>= fun tZ =>
 some (.inr tZ)
 else
 some (.inr false))
 else
 some (.inr false))
 else
 some (.inr false))
 else
 some (.inr false))
 else
 (if a0.ai = 46 then
 tW (a0.ah.length : Int) 1 2 >>= fun Hr =>
 (if Hr = true then
 dm a0.ah 0 >>= fun abq =>
 (if abq = true then
 (if (a0.ah.length : Int) = 1 then
 some (.inr true)
 else
 idx a0.ah 0 >>= fun VF =>
 some (.inr (VF.ai == 4)))
 else
 some (.inr false))
 else
 some (.inr false))
 else
 (if a0.ai = 48 then
 aT a0 >>= fun abr =>
 some (.inr abr)
 else
 (if a0.ai = 43 then
 tW (a0.ah.length : Int) 2 3 >>= fun abt =>
 (if abt = true then
 idx a0.ah 0 >>= fun VG =>
 aT VG >>= fun abu =>
 (if abu = true then
 ((
 da a0 1
 : Option ((Unit) ⊕ ((Unit) ⊕ Bool))) >>= fun Hs => match Hs with
 | .inr r => some r
 | .inl _ =>
 some (.inr true)
 )
 else
 some (.inr false))
 else
 some (.inr false))
 else
 some (.inl ())))))))))))
 : Option ((Unit) ⊕ Bool)) >>= fun VH => match VH with
 | .inr r => some r
 | .inl _ =>
 some false
 )
 else
 some false)
 else
 some false)
partial_fixpoint
def iJ (a0 : ae) (oy : Int) : Option ((Unit) ⊕ ((Unit) ⊕ Bool)) :=
 (if oy < (a0.ah.length : Int) then
 idx a0.ah oy >>= fun uR =>
 (if uR.ai = 6 then
 (if uR.aD = 0 then
 (if uR.aj = ([] : ar) then
 tW (uR.ah.length : Int) 1 2 >>= fun zY =>
 (if zY = true then
 dm uR.ah 0 >>= fun v38 =>
 (if v38 = true then
 iJ a0 (aU (oy + 1))
 else
 some (.inr (.inr false)))
 else
 some (.inr (.inr false)))
 else
 some (.inr (.inr false)))
 else
 some (.inr (.inr false)))
 else
 some (.inr (.inr false)))
 else
 some (.inl ()))
partial_fixpoint
def iK (a0 : List ae) (iy : Int) : Option ((Unit) ⊕ Bool) :=
 (if iy < (a0.length : Int) then
 idx a0 iy >>= fun Ca =>
 aW Ca >>= fun v131 =>
 (if v131 = true then
 iK a0 (aU (iy + 1))
 else
 some (.inr false))
 else
 some (.inl ()))
partial_fixpoint
def gR (a0 : ae) (iz : Int) : Option ((Unit) ⊕ Bool) :=
 (if iz < (a0.ah.length : Int) then
 idx a0.ah iz >>= fun Cb =>
 cP Cb >>= fun EL =>
 (if EL = true then
 gR a0 (aU (iz + 1))
 else
 some (.inr false))
 else
 some (.inl ()))
partial_fixpoint
def da (a0 : ae) (eZ : Int) : Option ((Unit) ⊕ ((Unit) ⊕ Bool)) :=
 (if eZ < (a0.ah.length : Int) then
 idx a0.ah eZ >>= fun gG =>
 cZ gG >>= fun (uS, Ac) =>
 (
 (if gG.ai = 44 then
 (if eZ = 1 then
 (if (gG.ah.length : Int) = 2 then
 idx gG.ah 0 >>= fun Cc =>
 (if Cc.ai = 4 then
 idx gG.ah 0 >>= fun Cd =>
 aW Cd >>= fun EM =>
 (if EM = true then
 idx gG.ah 1 >>= fun Ce =>
 aT Ce >>= fun EN =>
 some EN
 else
 some false)
 else
 some false)
 else
 some false)
 else
 some false)
 else
 some false)
 : Option (Bool)) >>= fun wN =>
 (
 (if gG.ai = 45 then
 (if eZ = (aU ((a0.ah.length : Int) - 1)) then
 (if (gG.ah.length : Int) = 1 then
 idx gG.ah 0 >>= fun Cf =>
 aT Cf >>= fun EO =>
 some EO
 else
 some false)
 else
 some false)
 else
 some false)
 : Option (Bool)) >>= fun yD =>
 (if uS = true then
 (if Ac = true then
 (if wN = true then
 da a0 (aU (eZ + 1))
 else
 (if yD = true then
 da a0 (aU (eZ + 1))
 else
 some (.inr (.inr false))))
 else
 some (.inr (.inr false)))
 else
 some (.inr (.inr false)))
 else
 some (.inl ()))
partial_fixpoint
end
def xt (a0 : ae) (r : Bool) : Prop := ACall Tryz.prog 79 [.agg a0.lit] [] (fun res h => res = .bool r ∧ h = [])
def yE (a0 : List ae) (a1 : Int) (r : Bool) : Prop := ACall Tryz.prog 149 [sl 4 ae.cells a0, .int .i64 a1] [] (fun res h => res = .bool r ∧ h = [])
def QG (a0 : List ae) (a1 : Bool) (r : Bool) : Prop := ACall Tryz.prog 77 [sl 4 ae.cells a0, .bool a1] [] (fun res h => res = .bool r ∧ h = [])
def DH (a0 : ae) (r : Bool) : Prop := ACall Tryz.prog 80 [.agg a0.lit] [] (fun res h => res = .bool r ∧ h = [])
def DI (a0 : ae) (r : Bool) : Prop := ACall Tryz.prog 76 [.agg a0.lit] [] (fun res h => res = .bool r ∧ h = [])
inductive dz : ae → Int → ((Unit) ⊕ ((Unit) ⊕ Bool)) → Prop
 | mk (Ht : (List ae) → Int → Option (Bool)) (abv : ∀ a0 a1 r, Ht a0 a1 = some r → yE a0 a1 r) (eQ : ae → Int → Option ((Unit) ⊕ ((Unit) ⊕ Bool))) (re : ∀ a0 oy o, eQ a0 oy = some o → dz a0 oy o) (a0 : ae) (oy : Int) (o : (Unit) ⊕ ((Unit) ⊕ Bool)) (h : (
 (if oy < (a0.ah.length : Int) then
 idx a0.ah oy >>= fun uR =>
 (if uR.ai = 6 then
 (if uR.aD = 0 then
 (if uR.aj = ([] : ar) then
 tW (uR.ah.length : Int) 1 2 >>= fun zY =>
 (if zY = true then
 Ht uR.ah 0 >>= fun v38 =>
 (if v38 = true then
 eQ a0 (aU (oy + 1))
 else
 some (.inr (.inr false)))
 else
 some (.inr (.inr false)))
 else
 some (.inr (.inr false)))
 else
 some (.inr (.inr false)))
 else
 some (.inr (.inr false)))
 else
 some (.inl ()))
 ) = some o) : dz a0 oy o
theorem qi {motive : ae → Int → ((Unit) ⊕ ((Unit) ⊕ Bool)) → Prop} (step : ∀ (Ht : (List ae) → Int → Option (Bool)) (abv : ∀ a0 a1 r, Ht a0 a1 = some r → yE a0 a1 r) (eQ : ae → Int → Option ((Unit) ⊕ ((Unit) ⊕ Bool))) (re : ∀ a0 oy o, eQ a0 oy = some o → dz a0 oy o) (a0 : ae) (oy : Int) (o : (Unit) ⊕ ((Unit) ⊕ Bool)) (h : (
 (if oy < (a0.ah.length : Int) then
 idx a0.ah oy >>= fun uR =>
 (if uR.ai = 6 then
 (if uR.aD = 0 then
 (if uR.aj = ([] : ar) then
 tW (uR.ah.length : Int) 1 2 >>= fun zY =>
 (if zY = true then
 Ht uR.ah 0 >>= fun v38 =>
 (if v38 = true then
 eQ a0 (aU (oy + 1))
 else
 some (.inr (.inr false)))
 else
 some (.inr (.inr false)))
 else
 some (.inr (.inr false)))
 else
 some (.inr (.inr false)))
 else
 some (.inr (.inr false)))
 else
 some (.inl ()))
 ) = some o) (ih : ∀ a0 oy o, eQ a0 oy = some o → motive a0 oy o), motive a0 oy o) : ∀ a0 oy o, dz a0 oy o → motive a0 oy o :=
 fun a0 oy o h => dz.rec (motive := fun a0 oy o _ => motive a0 oy o) step h
inductive dA : (List ae) → Int → ((Unit) ⊕ Bool) → Prop
 | mk (Hu : ae → Option (Bool)) (VI : ∀ a0 r, Hu a0 = some r → xt a0 r) (eR : (List ae) → Int → Option ((Unit) ⊕ Bool)) (rf : ∀ a0 iy o, eR a0 iy = some o → dA a0 iy o) (a0 : List ae) (iy : Int) (o : (Unit) ⊕ Bool) (h : (
 (if iy < (a0.length : Int) then
 idx a0 iy >>= fun Ca =>
 Hu Ca >>= fun v131 =>
 (if v131 = true then
 eR a0 (aU (iy + 1))
 else
 some (.inr false))
 else
 some (.inl ()))
 ) = some o) : dA a0 iy o
theorem qj {motive : (List ae) → Int → ((Unit) ⊕ Bool) → Prop} (step : ∀ (Hu : ae → Option (Bool)) (VI : ∀ a0 r, Hu a0 = some r → xt a0 r) (eR : (List ae) → Int → Option ((Unit) ⊕ Bool)) (rf : ∀ a0 iy o, eR a0 iy = some o → dA a0 iy o) (a0 : List ae) (iy : Int) (o : (Unit) ⊕ Bool) (h : (
 (if iy < (a0.length : Int) then
 idx a0 iy >>= fun Ca =>
 Hu Ca >>= fun v131 =>
 (if v131 = true then
 eR a0 (aU (iy + 1))
 else
 some (.inr false))
 else
 some (.inl ()))
 ) = some o) (ih : ∀ a0 iy o, eR a0 iy = some o → motive a0 iy o), motive a0 iy o) : ∀ a0 iy o, dA a0 iy o → motive a0 iy o :=
 fun a0 iy o h => dA.rec (motive := fun a0 iy o _ => motive a0 iy o) step h
inductive db : ae → Int → ((Unit) ⊕ Bool) → Prop
 | mk (G76 : ae → Option (Bool)) (anr : ∀ a0 r, G76 a0 = some r → DI a0 r) (dZ : ae → Int → Option ((Unit) ⊕ Bool)) (qk : ∀ a0 iz o, dZ a0 iz = some o → db a0 iz o) (a0 : ae) (iz : Int) (o : (Unit) ⊕ Bool) (h : (
 (if iz < (a0.ah.length : Int) then
 idx a0.ah iz >>= fun Cb =>
 G76 Cb >>= fun EL =>
 (if EL = true then
 dZ a0 (aU (iz + 1))
 else
 some (.inr false))
 else
 some (.inl ()))
 ) = some o) : db a0 iz o
theorem pS {motive : ae → Int → ((Unit) ⊕ Bool) → Prop} (step : ∀ (G76 : ae → Option (Bool)) (anr : ∀ a0 r, G76 a0 = some r → DI a0 r) (dZ : ae → Int → Option ((Unit) ⊕ Bool)) (qk : ∀ a0 iz o, dZ a0 iz = some o → db a0 iz o) (a0 : ae) (iz : Int) (o : (Unit) ⊕ Bool) (h : (
 (if iz < (a0.ah.length : Int) then
 idx a0.ah iz >>= fun Cb =>
 G76 Cb >>= fun EL =>
 (if EL = true then
 dZ a0 (aU (iz + 1))
 else
 some (.inr false))
 else
 some (.inl ()))
 ) = some o) (ih : ∀ a0 iz o, dZ a0 iz = some o → motive a0 iz o), motive a0 iz o) : ∀ a0 iz o, db a0 iz o → motive a0 iz o :=
 fun a0 iz o h => db.rec (motive := fun a0 iz o _ => motive a0 iz o) step h
inductive dB : ae → Int → ((Unit) ⊕ ((Unit) ⊕ Bool)) → Prop
 | mk (Hu : ae → Option (Bool)) (VI : ∀ a0 r, Hu a0 = some r → xt a0 r) (VJ : ae → Option (Bool)) (ans : ∀ a0 r, VJ a0 = some r → DH a0 r) (cQ : ae → Int → Option ((Unit) ⊕ ((Unit) ⊕ Bool))) (rh : ∀ a0 eZ o, cQ a0 eZ = some o → dB a0 eZ o) (a0 : ae) (eZ : Int) (o : (Unit) ⊕ ((Unit) ⊕ Bool)) (h : (
 (if eZ < (a0.ah.length : Int) then
 idx a0.ah eZ >>= fun gG =>
 cZ gG >>= fun (uS, Ac) =>
 (
 (if gG.ai = 44 then
 (if eZ = 1 then
 (if (gG.ah.length : Int) = 2 then
 idx gG.ah 0 >>= fun Cc =>
 (if Cc.ai = 4 then
 idx gG.ah 0 >>= fun Cd =>
 Hu Cd >>= fun EM =>
 (if EM = true then
 idx gG.ah 1 >>= fun Ce =>
 VJ Ce >>= fun EN =>
 some EN
 else
 some false)
 else
 some false)
 else
 some false)
 else
 some false)
 else
 some false)
 : Option (Bool)) >>= fun wN =>
 (
 (if gG.ai = 45 then
 (if eZ = (aU ((a0.ah.length : Int) - 1)) then
 (if (gG.ah.length : Int) = 1 then
 idx gG.ah 0 >>= fun Cf =>
 VJ Cf >>= fun EO =>
 some EO
 else
 some false)
 else
 some false)
 else
 some false)
 : Option (Bool)) >>= fun yD =>
 (if uS = true then
 (if Ac = true then
 (if wN = true then
 cQ a0 (aU (eZ + 1))
 else
 (if yD = true then
 cQ a0 (aU (eZ + 1))
 else
 some (.inr (.inr false))))
 else
 some (.inr (.inr false)))
 else
 some (.inr (.inr false)))
 else
 some (.inl ()))
 ) = some o) : dB a0 eZ o
theorem ql {motive : ae → Int → ((Unit) ⊕ ((Unit) ⊕ Bool)) → Prop} (step : ∀ (Hu : ae → Option (Bool)) (VI : ∀ a0 r, Hu a0 = some r → xt a0 r) (VJ : ae → Option (Bool)) (ans : ∀ a0 r, VJ a0 = some r → DH a0 r) (cQ : ae → Int → Option ((Unit) ⊕ ((Unit) ⊕ Bool))) (rh : ∀ a0 eZ o, cQ a0 eZ = some o → dB a0 eZ o) (a0 : ae) (eZ : Int) (o : (Unit) ⊕ ((Unit) ⊕ Bool)) (h : (
 (if eZ < (a0.ah.length : Int) then
 idx a0.ah eZ >>= fun gG =>
 cZ gG >>= fun (uS, Ac) =>
 (
 (if gG.ai = 44 then
 (if eZ = 1 then
 (if (gG.ah.length : Int) = 2 then
 idx gG.ah 0 >>= fun Cc =>
 (if Cc.ai = 4 then
 idx gG.ah 0 >>= fun Cd =>
 Hu Cd >>= fun EM =>
 (if EM = true then
 idx gG.ah 1 >>= fun Ce =>
 VJ Ce >>= fun EN =>
 some EN
 else
 some false)
 else
 some false)
 else
 some false)
 else
 some false)
 else
 some false)
 : Option (Bool)) >>= fun wN =>
 (
 (if gG.ai = 45 then
 (if eZ = (aU ((a0.ah.length : Int) - 1)) then
 (if (gG.ah.length : Int) = 1 then
 idx gG.ah 0 >>= fun Cf =>
 VJ Cf >>= fun EO =>
 some EO
 else
 some false)
 else
 some false)
 else
 some false)
 : Option (Bool)) >>= fun yD =>
 (if uS = true then
 (if Ac = true then
 (if wN = true then
 cQ a0 (aU (eZ + 1))
 else
 (if yD = true then
 cQ a0 (aU (eZ + 1))
 else
 some (.inr (.inr false))))
 else
 some (.inr (.inr false)))
 else
 some (.inr (.inr false)))
 else
 some (.inl ()))
 ) = some o) (ih : ∀ a0 eZ o, cQ a0 eZ = some o → motive a0 eZ o), motive a0 eZ o) : ∀ a0 eZ o, dB a0 eZ o → motive a0 eZ o :=
 fun a0 eZ o h => dB.rec (motive := fun a0 eZ o _ => motive a0 eZ o) step h
theorem uT : (∀ a0 r, aW a0 = some r → xt a0 r) ∧ (∀ a0 a1 r, kI a0 a1 = some r → QG a0 a1 r) ∧ (∀ a0 r, aT a0 = some r → DH a0 r) ∧ (∀ a0 iz o, gR a0 iz = some o → db a0 iz o) ∧ (∀ a0 r, cP a0 = some r → DI a0 r) ∧ (∀ a0 eZ o, da a0 eZ = some o → dB a0 eZ o) ∧ (∀ a0 a1 r, dm a0 a1 = some r → yE a0 a1 r) ∧ (∀ a0 iy o, iK a0 iy = some o → dA a0 iy o) ∧ (∀ a0 oy o, iJ a0 oy = some o → dz a0 oy o) := by
 refine aW.mutual_partial_correctness xt QG DH db DI dB yE dA dz ?_ ?_ ?_ ?_ ?_ ?_ ?_ ?_ ?_
 intro _ _ _ _ uU abw nx ant a0 r h
 refine gd Tryz.func79 ?_
 refine .d (.d ⟨rfl, _, rfl, ?_⟩)
 obtain ⟨⟨v1, v2⟩, NM, h⟩ := bd h
 refine aS (lA NM) (.d ⟨rfl, ⟨rfl, _, rfl, (.d (.d (l7 h (fun B1 h => ?_) (fun B1 h => ?_))))⟩⟩)
 exact .t (.t (.t (.d (eB h))))
 refine .f (.f (l7 h (fun B2 h => ?_) (fun B2 h => ?_)))
 exact ate
 obtain ⟨o6, ho7, tA⟩ := bd h
 replace h := ho7
 refine .cut (fun σ η => .inl () = o6 ∧ σ = [] ∧ η = []) ?_ ?_
 refine .d ⟨rfl, ⟨rfl, _, rfl, ?_⟩⟩
 obtain ⟨o10, VK, VL⟩ := bd h
 replace h := VK
 refine .cut (fun σ η => ∃ b9, b9 = o10 ∧ σ = [(1, .aL 0 0 0 0), (5, .int .i64 (a0.ah.length : Int)), (23, .int .i64 a0.ai), (24, .bool b9)] ∧ η = [.row 0 4 1 29 (fun _ => a0.lit)]) ?_ ?_
 refine .d (sE h (fun wO h => ?_) (fun wO h => ?_))
 exact asX
 refine .d (sE h (fun ua h => ?_) (fun ua h => ?_))
 exact asX
 refine .d (sE h (fun lU h => ?_) (fun lU h => ?_))
 exact asX
 exact asX
 rintro _ _ ⟨b9, rfl, rfl, rfl⟩
 replace h := VL
 refine sV h (fun pT h => ?_) (fun pT h => ?_)
 refine .d ?_
 exact asN
 refine .d (sE h (fun ri h => ?_) (fun ri h => ?_))
 obtain ⟨Hf, anu, EP⟩ := bd h
 replace h := anu
 refine .cut (fun σ η => .inl () = Hf ∧ σ = [] ∧ η = []) ?_ ?_
 refine .d ?_
 have anv := ant _ _ _ h
 refine le (qi (motive := fun p43 oy o41 => a0 = p43 → Hf = o41 → aG _ _ [(1, .aL 0 0 0 0), (5, .int .i64 (a0.ah.length : Int)), (6, .int .i64 oy)] [.row 0 4 1 29 (fun _ => a0.lit)]) ?_ a0 0 Hf anv rfl rfl) (tk [0] ⟨.p, .i, .i, ⟨⟩⟩ ⟨(cF rfl), ⟨⟩⟩)
 intro _ anw _ _ p43 oy o41 h anx  VM anz
 subst VM
 subst anz
 refine aG.round (.d (.d (sD h (fun VN h => ?_) (fun VN h => ?_))))
 refine .d (.d ⟨rfl, ⟨rfl, _, rfl, (bk h fun uR wP h => ⟨aA wP, _, (ax wP).trans (ae.au uR), ⟨rfl, _, fun _ => [.int .i64 uR.ai, .int .i64 uR.aD, .str uR.aj, sl 4 ae.cells uR.ah], rfl, bX rfl, (.d ⟨rfl, ⟨rfl, _, rfl, (sN h (fun Hv h => ?_) (fun Hv h => ?_))⟩⟩)⟩⟩)⟩⟩)
 refine .t (.t (.t (.t (.t (.t (.t (.t (.t (.t (.t (.t (.t (.t (.t ?_))))))))))))))
 refine .t (.t (.t (.t (.d ?_))))
 obtain rfl := si h
 replace h := EP
 exact asN
 refine ⟨rfl, (.f ⟨rfl, _, rfl, (.f (.f (sN h (fun VO h => ?_) (fun VO h => ?_))))⟩)⟩
 refine .t (.t (.t (.t (.t (.t (.t (.t (.t (.t (.t (.t (.t (.t (.t ?_))))))))))))))
 refine .d ?_
 obtain rfl := si h
 replace h := EP
 exact asN
 refine ⟨rfl, (.f ⟨rfl, _, rfl, (.f (.f (VP h (fun Hw h => ?_) (fun Hw h => ?_))))⟩)⟩
 refine .t (.t (.t (.t (.t (.t (.t (.t (.t (.t (.t (.d ?_)))))))))))
 obtain rfl := si h
 replace h := EP
 exact asN
 refine ⟨rfl, (.f ⟨rfl, _, rfl, (.f (.f (bk h fun zY Hx h => (aS (ny Hx) (.f (.f (l7 h (fun Hy h => ?_) (fun Hy h => ?_))))))))⟩)⟩
 refine .t (.t (.t (.t (.t (.d ?_)))))
 obtain rfl := si h
 replace h := EP
 exact asN
 refine ⟨rfl, (.f ⟨rfl, _, rfl, (.f (bk h fun v38 anA h => (aS (anw _ _ _ anA) (.f (.f (l7 h (fun anB h => ?_) (fun anB h => ?_)))))))⟩)⟩
 refine .d ?_
 obtain rfl := si h
 replace h := EP
 exact asN
 exact lg (anx _ _ _ h rfl rfl) (tk [0] ⟨.p, .i, .i, ⟨⟩⟩ ⟨(cF rfl), ⟨⟩⟩)
 exact ata
 rintro _ _ ⟨rfl, rfl, rfl⟩
 replace h := EP
 refine .d ?_
 exact asN
 obtain ⟨o47, anC, anD⟩ := bd h
 replace h := anC
 refine .cut (fun σ η => ∃ b46, b46 = o47 ∧ σ = [(1, .aL 0 0 0 0), (5, .int .i64 (a0.ah.length : Int)), (23, .int .i64 a0.ai), (69, .bool b46)] ∧ η = [.row 0 4 1 29 (fun _ => a0.lit)]) ?_ ?_
 refine .d (sE h (fun anE h => ?_) (fun anE h => ?_))
 exact asX
 exact asX
 rintro _ _ ⟨b46, rfl, rfl, rfl⟩
 replace h := anD
 refine sV h (fun Hz h => ?_) (fun Hz h => ?_)
 refine .d (sE h (fun anF h => ?_) (fun anF h => ?_))
 refine ⟨rfl, (.t ⟨rfl, _, rfl, (.t (bk h fun Hg HA h => ⟨aA HA, _, (ax HA).trans (ae.au Hg), (.t (.t (bk h fun NK VQ h => (aS (uU _ _ VQ) (.t ?_)))))⟩))⟩)⟩
 exact asN
 refine .f (.f (.f (.f (.f ?_))))
 exact asN
 obtain ⟨o58, anG, anH⟩ := bd h
 replace h := anG
 refine .cut (fun σ η => ∃ b57, b57 = o58 ∧ σ = [(1, .aL 0 0 0 0), (5, .int .i64 (a0.ah.length : Int)), (23, .int .i64 a0.ai), (81, .bool b57)] ∧ η = [.row 0 4 1 29 (fun _ => a0.lit)]) ?_ ?_
 refine .d (sE h (fun HD h => ?_) (fun HD h => ?_))
 exact asX
 refine .d (sE h (fun HG h => ?_) (fun HG h => ?_))
 exact asX
 refine .d (sE h (fun anI h => ?_) (fun anI h => ?_))
 exact asX
 refine .d (sE h (fun anJ h => ?_) (fun anJ h => ?_))
 exact asX
 exact asX
 rintro _ _ ⟨b57, rfl, rfl, rfl⟩
 replace h := anH
 refine sV h (fun HH h => ?_) (fun HH h => ?_)
 refine .d (sE h (fun VR h => ?_) (fun VR h => ?_))
 refine ⟨rfl, (.t ⟨rfl, _, rfl, (.t (bk h fun v67 VS h => (aS (nx _ _ _ VS) (.t ?_))))⟩)⟩
 exact asN
 refine .f (.f (.f ?_))
 exact asN
 refine .d (sE h (fun VT h => ?_) (fun VT h => ?_))
 refine .d (sE h (fun VU h => ?_) (fun VU h => ?_))
 refine ⟨rfl, (.t ⟨rfl, _, rfl, (.t (bk h fun v71 VV h => (aS (nx _ _ _ VV) (.t ?_))))⟩)⟩
 exact asN
 refine .f (.f (.f ?_))
 exact asN
 obtain ⟨o74, anK, anL⟩ := bd h
 replace h := anK
 refine .cut (fun σ η => ∃ b73, b73 = o74 ∧ σ = [(1, .aL 0 0 0 0), (5, .int .i64 (a0.ah.length : Int)), (23, .int .i64 a0.ai), (103, .bool b73)] ∧ η = [.row 0 4 1 29 (fun _ => a0.lit)]) ?_ ?_
 refine .d (sE h (fun VW h => ?_) (fun VW h => ?_))
 exact asX
 exact asX
 rintro _ _ ⟨b73, rfl, rfl, rfl⟩
 replace h := anL
 refine sV h (fun anM h => ?_) (fun anM h => ?_)
 refine .d (sE h (fun VX h => ?_) (fun VX h => ?_))
 refine ⟨rfl, (.t ⟨rfl, _, rfl, (.t (bk h fun x80 abx h => ⟨aA abx, _, (ax abx).trans (ae.au x80), (.t (.t (bk h fun QF HI h => (aS (oG HI) (.t (sV h (fun VY h => ?_) (fun VY h => ?_)))))))⟩))⟩)⟩
 refine ⟨rfl, (.t ⟨rfl, _, rfl, (.t (bk h fun v85 VZ h => (aS (nx _ _ _ VZ) (.t ?_))))⟩)⟩
 exact asN
 refine .f (.f (.f ?_))
 exact asN
 refine .f (.f (.f (.f (.f (.f (.f (.f (.f ?_))))))))
 exact asN
 refine .d (sE h (fun V0 h => ?_) (fun V0 h => ?_))
 refine .d (sE h (fun V1 h => ?_) (fun V1 h => ?_))
 refine ⟨rfl, (.t ⟨rfl, _, rfl, (.t (bk h fun x89 aby h => ⟨aA aby, _, (ax aby).trans (ae.au x89), (.t (.t (.t (.t (sE h (fun anN h => ?_) (fun anN h => ?_))))))⟩))⟩)⟩
 refine ⟨rfl, (.t ⟨rfl, _, rfl, (.t (bk h fun x92 abz h => ⟨aA abz, _, (ax abz).trans (ae.au x92), (.t (.t (bk h fun v94 anO h => (aS (uU _ _ anO) (.t ?_)))))⟩))⟩)⟩
 exact asN
 refine .f (.f (.f (.f (.f ?_))))
 exact asN
 refine .f (.f (.f (.f (.f (.f (.f (.f (.f (.f (.f (.f ?_)))))))))))
 exact asN
 obtain ⟨o97, anP, anQ⟩ := bd h
 replace h := anP
 refine .cut (fun σ η => ∃ b96, b96 = o97 ∧ σ = [(1, .aL 0 0 0 0), (5, .int .i64 (a0.ah.length : Int)), (23, .int .i64 a0.ai), (139, .bool b96)] ∧ η = [.row 0 4 1 29 (fun _ => a0.lit)]) ?_ ?_
 refine .d (sE h (fun abA h => ?_) (fun abA h => ?_))
 exact asX
 refine .d (sE h (fun HJ h => ?_) (fun HJ h => ?_))
 exact asX
 exact asX
 rintro _ _ ⟨b96, rfl, rfl, rfl⟩
 replace h := anQ
 refine sV h (fun HK h => ?_) (fun HK h => ?_)
 refine .d ⟨rfl, ⟨rfl, _, rfl, (bk h fun abd abB h => (aS (nx _ _ _ abB) ?_))⟩⟩
 exact asN
 obtain ⟨anR, abC, abD⟩ := bd h
 replace h := abC
 refine .cut (fun σ η => ∃ Hh, Hh = anR ∧ σ = [(1, .aL 0 0 0 0), (5, .int .i64 (a0.ah.length : Int)), (23, .int .i64 a0.ai), (146, .bool Hh)] ∧ η = [.row 0 4 1 29 (fun _ => a0.lit)]) ?_ ?_
 refine .d (sE h (fun Ad h => ?_) (fun Ad h => ?_))
 exact asX
 exact asX
 rintro _ _ ⟨Hh, rfl, rfl, rfl⟩
 replace h := abD
 refine sV h (fun abE h => ?_) (fun abE h => ?_)
 refine .d (sD h (fun abF h => ?_) (fun abF h => ?_))
 refine ⟨rfl, (.t ⟨rfl, _, rfl, (.t (bk h fun Hi HL h => (aS (nx _ _ _ HL) (.t ?_))))⟩)⟩
 exact asN
 refine .f (.f (.f ?_))
 exact asN
 refine .d (sE h (fun HM h => ?_) (fun HM h => ?_))
 refine .d ⟨rfl, ⟨rfl, _, rfl, (bk h fun Hj HN h => (aS (abw _ _ _ HN) ?_))⟩⟩
 exact asN
 exact ata
 rintro _ _ ⟨rfl, rfl, rfl⟩
 replace h := tA
 exact ate
 intro _ tB a0 a1 r h
 refine gd Tryz.func77 ?_
 refine .d (.d (.d ?_))
 obtain ⟨Hl, abG, l8⟩ := bd h
 replace h := abG
 refine .cut (fun σ η => .inl () = Hl ∧ σ = [(0, sl 4 ae.cells a0), (6, .int .i64 (aU ((a0.length : Int) - 1)))] ∧ η = []) ?_ ?_
 refine .d ?_
 refine le (dQ.partial_correctness a0 a1 (motive := fun NJ yB abH => Hl = abH → aG _ _ [(0, sl 4 ae.cells a0), (1, .bool a1), (5, .bool NJ), (6, .int .i64 (aU ((a0.length : Int) - 1))), (7, .int .i64 yB)] []) ?_ false 0 Hl h rfl) (tk [] ⟨.l, .b, .b, .i, .i, ⟨⟩⟩ ⟨⟩)
 intro aqL HO NJ yB abH h abI
 subst abI
 refine aG.round (.d (.d (sD h (fun Ae h => ?_) (fun Ae h => ?_))))
 refine .d (.d (bk h fun mL QH h => ⟨aA QH, _, (ax QH).trans (ae.au mL), ⟨rfl, _, fun _ => [.int .i64 mL.ai, .int .i64 mL.aD, .str mL.aj, sl 4 ae.cells mL.ah], rfl, bX rfl, ?_⟩⟩))
 obtain ⟨anS, abJ, abK⟩ := bd h
 replace h := abJ
 refine .cut (fun σ η => ∃ Aa, Aa = anS ∧ σ = [(0, sl 4 ae.cells a0), (1, .bool a1), (5, .bool Aa), (6, .int .i64 (aU ((a0.length : Int) - 1))), (7, .int .i64 yB), (8, .aL 0 0 0 0)] ∧ η = [.row 0 4 1 29 (fun _ => mL.lit)]) ?_ ?_
 refine .d ⟨rfl, ⟨rfl, _, rfl, (sE h (fun HP h => ?_) (fun HP h => ?_))⟩⟩
 exact ct ⟨_, si h, rfl, rfl⟩ (tk [0] ⟨.l, .b, .b, .i, .i, .p, ⟨⟩⟩ ⟨(cF rfl), ⟨⟩⟩)
 exact ct ⟨_, si h, rfl, rfl⟩ (tk [0] ⟨.l, .b, .b, .i, .i, .p, ⟨⟩⟩ ⟨(cF rfl), ⟨⟩⟩)
 rintro _ _ ⟨Aa, rfl, rfl, rfl⟩
 replace h := abK
 refine .d ⟨rfl, ⟨rfl, _, rfl, (sE h (fun Af h => ?_) (fun Af h => ?_))⟩⟩
 refine .t (.t (l7 h (fun abL h => ?_) (fun abL h => ?_)))
 refine .t (.t (.t (.t (.t (.f ⟨rfl, (.f ⟨rfl, _, rfl, (.f (bk h fun abb abM h => (aS (ny abM) (.f (.f (l7 h (fun abN h => ?_) (fun abN h => ?_)))))))⟩)⟩)))))
 refine .t (.t (.t (.t (.t (.t (.t (.t (.t (.t (.d ?_))))))))))
 exact asQ
 refine ⟨rfl, (.f ⟨rfl, _, rfl, (.f (bk h fun v159 HQ h => (aS (dP HQ) (.f (.f (l7 h (fun abO h => ?_) (fun abO h => ?_)))))))⟩)⟩
 refine .t (.t (.t (.t (.t (.d ?_)))))
 exact asQ
 refine ⟨rfl, (.f ⟨rfl, _, rfl, (.f (.f (.f (sD h (fun Ag h => ?_) (fun Ag h => ?_)))))⟩)⟩
 refine .d ?_
 exact asQ
 exact ato
 refine ⟨rfl, (.f ⟨rfl, _, rfl, (.f (.f (sE h (fun HR h => ?_) (fun HR h => ?_))))⟩)⟩
 refine .f (.t (.f (l7 h (fun HT h => ?_) (fun HT h => ?_))))
 refine .t (.t (.t (.t (.t (.t (.t (.t (.t (.t (.t (.t (.t (.t (.t ?_))))))))))))))
 refine .d ?_
 exact asQ
 refine ⟨rfl, (.f ⟨rfl, _, rfl, (.f (bk h fun uQ Ah h => (aS (ny Ah) (.f (.f (l7 h (fun abP h => ?_) (fun abP h => ?_)))))))⟩)⟩
 refine .t (.t (.t (.t (.t (.t (.t (.t (.t (.t (.d ?_))))))))))
 exact asQ
 refine ⟨rfl, (.f ⟨rfl, _, rfl, (.f (bk h fun v168 Ai h => (aS (dP Ai) (.f (.f (l7 h (fun abQ h => ?_) (fun abQ h => ?_)))))))⟩)⟩
 refine .t (.t (.t (.t (.t (.d ?_)))))
 exact asQ
 refine ⟨rfl, (.f ⟨rfl, _, rfl, (.f (.f (.f (sD h (fun abR h => ?_) (fun abR h => ?_)))))⟩)⟩
 refine .d ?_
 exact asQ
 exact ato
 refine .f (.f (.f (.t (.t (.t (.t (.t (.t (.t (.t (.t (.t (.t (.t ?_))))))))))))))
 refine .t (.t (.t (.t (.d ?_))))
 exact asQ
 refine .f (.f (.f ⟨rfl, (.f ⟨rfl, _, rfl, (.f (.f (sE h (fun HU h => ?_) (fun HU h => ?_))))⟩)⟩))
 refine .f (.t (.f (l7 h (fun abS h => ?_) (fun abS h => ?_))))
 refine .t (.t (.t (.t (.t (.t (.t (.t (.t (.t (.t (.t (.t (.t (.t ?_))))))))))))))
 refine .d ?_
 exact asQ
 refine ⟨rfl, (.f ⟨rfl, _, rfl, (.f (bk h fun Ab HV h => (aS (ny HV) (.f (.f (l7 h (fun abT h => ?_) (fun abT h => ?_)))))))⟩)⟩
 refine .t (.t (.t (.t (.t (.t (.t (.t (.t (.t (.d ?_))))))))))
 exact asQ
 refine ⟨rfl, (.f ⟨rfl, _, rfl, (.f (bk h fun abc abU h => (aS (dP abU) (.f (.f (l7 h (fun abV h => ?_) (fun abV h => ?_)))))))⟩)⟩
 refine .t (.t (.t (.t (.t (.d ?_)))))
 exact asQ
 refine ⟨rfl, (.f ⟨rfl, _, rfl, (.f (.f (.f (sD h (fun Aj h => ?_) (fun Aj h => ?_)))))⟩)⟩
 refine .d ?_
 exact asQ
 exact ato
 refine .f (.f (.f (.t (.t (.t (.t (.t (.t (.t (.t (.t (.t (.t (.t ?_))))))))))))))
 refine .t (.t (.t (.t (.d ?_))))
 exact asQ
 exact ct ⟨si h, rfl, rfl⟩ (tk [] ⟨.l, .i, ⟨⟩⟩ ⟨⟩)
 rintro _ _ ⟨rfl, rfl, rfl⟩
 replace h := l8
 refine .d (sD h (fun abW h => ?_) (fun abW h => ?_))
 exact .t (.t (bk h fun Vv QI h => ⟨aA QI, _, (ax QI).trans (ae.au Vv), (.t (.t (bk h fun abe abX h => (aS (tB _ _ abX) (.t (eB h))))))⟩))
 exact .f (.f (.f (.f (.f (eB h)))))
 intro _ abY a0 r h
 refine gd Tryz.func80 ?_
 refine .d (.d (.d ⟨rfl, ⟨rfl, _, rfl, (sN h (fun abZ h => ?_) (fun abZ h => ?_))⟩⟩))
 exact .t (.t (.t (.t (.t (.t (.t (.t (.d (eB h)))))))))
 refine ⟨rfl, (.f ⟨rfl, _, rfl, (.f (.f (sN h (fun ab0 h => ?_) (fun ab0 h => ?_))))⟩)⟩
 exact .t (.t (.t (.t (.d (eB h)))))
 refine ⟨rfl, (.f ⟨rfl, _, rfl, (.f (.f (VP h (fun ab1 h => ?_) (fun ab1 h => ?_))))⟩)⟩
 exact ate
 obtain ⟨Hm, ab2, QJ⟩ := bd h
 replace h := ab2
 refine .cut (fun σ η => .inl () = Hm ∧ σ = [] ∧ η = []) ?_ ?_
 refine .d ?_
 have ab3 := abY _ _ _ h
 refine le (pS (motive := fun ab4 iz ab5 => a0 = ab4 → Hm = ab5 → aG _ _ [(1, .aL 0 0 0 0), (3, .int .i64 iz)] [.row 0 4 1 29 (fun _ => a0.lit)]) ?_ a0 0 Hm ab3 rfl rfl) (tk [0] ⟨.p, .i, ⟨⟩⟩ ⟨(cF rfl), ⟨⟩⟩)
 intro _ ab6 _ _ ab4 iz ab5 h ab7  NN ab8
 subst NN
 subst ab8
 refine aG.round (.d (.d ⟨rfl, ⟨rfl, _, rfl, (sD h (fun ab9 h => ?_) (fun ab9 h => ?_))⟩⟩))
 refine .d (.d ⟨rfl, ⟨rfl, _, rfl, (bk h fun Cb xu h => ⟨aA xu, _, (ax xu).trans (ae.au Cb), (bk h fun EL aca h => (aS (ab6 _ _ aca) (l7 h (fun acb h => ?_) (fun acb h => ?_))))⟩)⟩⟩)
 refine .d ?_
 obtain rfl := si h
 replace h := QJ
 exact eB h
 exact lg (ab7 _ _ _ h rfl rfl) (tk [0] ⟨.p, .i, ⟨⟩⟩ ⟨(cF rfl), ⟨⟩⟩)
 exact ata
 rintro _ _ ⟨rfl, rfl, rfl⟩
 replace h := QJ
 exact ate
 intro F0 F1 lx ly a0 iz o h
 exact .mk F1 ly F0 lx a0 iz o h
 intro _ _ _ _ uU tB acd nx a0 r h
 refine gd Tryz.func76 ?_
 refine .d (.d ⟨rfl, _, rfl, ?_⟩)
 obtain ⟨⟨abf, abg⟩, ace, h⟩ := bd h
 refine aS (lA ace) (.d ⟨rfl, ⟨rfl, _, rfl, (.d (.d (l7 h (fun HW h => ?_) (fun HW h => ?_))))⟩⟩)
 exact .t (.t (.t (.d (eB h))))
 refine .f (.f (l7 h (fun HZ h => ?_) (fun HZ h => ?_)))
 exact ate
 obtain ⟨VH, acf, eH⟩ := bd h
 replace h := acf
 refine .cut (fun σ η => .inl () = VH ∧ σ = [] ∧ η = []) ?_ ?_
 refine .d ⟨rfl, ⟨rfl, _, rfl, ?_⟩⟩
 obtain ⟨anT, acg, ach⟩ := bd h
 replace h := acg
 refine .cut (fun σ η => ∃ Hn, Hn = anT ∧ σ = [(1, .aL 0 0 0 0), (5, .int .i64 (a0.ah.length : Int)), (27, .int .i64 a0.ai), (28, .bool Hn)] ∧ η = [.row 0 4 1 29 (fun _ => a0.lit)]) ?_ ?_
 refine .d (sE h (fun aci h => ?_) (fun aci h => ?_))
 exact asX
 refine .d (sE h (fun acj h => ?_) (fun acj h => ?_))
 exact asX
 refine .d (sE h (fun H0 h => ?_) (fun H0 h => ?_))
 exact asX
 refine .d (sE h (fun H2 h => ?_) (fun H2 h => ?_))
 exact asX
 exact asX
 rintro _ _ ⟨Hn, rfl, rfl, rfl⟩
 replace h := ach
 refine sV h (fun ack h => ?_) (fun ack h => ?_)
 refine .d ?_
 exact asM
 obtain ⟨anU, acm, acn⟩ := bd h
 replace h := acm
 refine .cut (fun σ η => ∃ Ho, Ho = anU ∧ σ = [(1, .aL 0 0 0 0), (5, .int .i64 (a0.ah.length : Int)), (27, .int .i64 a0.ai), (36, .bool Ho)] ∧ η = [.row 0 4 1 29 (fun _ => a0.lit)]) ?_ ?_
 refine .d (sE h (fun aco h => ?_) (fun aco h => ?_))
 exact asX
 refine .d (sE h (fun H3 h => ?_) (fun H3 h => ?_))
 exact asX
 exact asX
 rintro _ _ ⟨Ho, rfl, rfl, rfl⟩
 replace h := acn
 refine sV h (fun H4 h => ?_) (fun H4 h => ?_)
 refine .d (sE h (fun acp h => ?_) (fun acp h => ?_))
 refine ⟨rfl, (.t ⟨rfl, _, rfl, (.t (bk h fun Vw QK h => ⟨aA QK, _, (ax QK).trans (ae.au Vw), (.t (.t (bk h fun abh acq h => (aS (uU _ _ acq) (.t ?_)))))⟩))⟩)⟩
 exact asM
 refine .f (.f (.f (.f (.f ?_))))
 exact asM
 refine .d (sE h (fun acr h => ?_) (fun acr h => ?_))
 refine .d (sD h (fun acs h => ?_) (fun acs h => ?_))
 refine ⟨rfl, (.t ⟨rfl, _, rfl, (.t (bk h fun abi acu h => (aS (nx _ _ _ acu) (.t ?_))))⟩)⟩
 exact asM
 refine .f (.f (.f ?_))
 exact asM
 refine .d (sE h (fun H5 h => ?_) (fun H5 h => ?_))
 refine .d (sE h (fun H6 h => ?_) (fun H6 h => ?_))
 refine ⟨rfl, (.t ⟨rfl, _, rfl, (.t (bk h fun Vx QL h => ⟨aA QL, _, (ax QL).trans (ae.au Vx), (.t (.t (bk h fun abj acv h => (aS (oG acv) (.t (sV h (fun acw h => ?_) (fun acw h => ?_)))))))⟩))⟩)⟩
 refine ⟨rfl, (.t ⟨rfl, _, rfl, (.t (bk h fun Vy QM h => ⟨aA QM, _, (ax QM).trans (ae.au Vy), (.t (.t (bk h fun Hp H7 h => (aS (uU _ _ H7) (.t ?_)))))⟩))⟩)⟩
 exact asM
 refine .f (.f (.f (.f (.f ?_))))
 exact asM
 refine .f (.f (.f (.f (.f (.f (.f (.f (.f (.f (.f ?_))))))))))
 exact asM
 refine .d (sE h (fun H8 h => ?_) (fun H8 h => ?_))
 refine .d (bk h fun abk acx h => (aS (ny acx) (sV h (fun acy h => ?_) (fun acy h => ?_))))
 refine ⟨rfl, (.t ⟨rfl, _, rfl, (.t (bk h fun Vz QN h => ⟨aA QN, _, (ax QN).trans (ae.au Vz), (.t (.t (bk h fun abl acz h => (aS (uU _ _ acz) (.t (sV h (fun acA h => ?_) (fun acA h => ?_)))))))⟩))⟩)⟩
 refine ⟨rfl, (.t ⟨rfl, _, rfl, (.t (bk h fun VA QO h => ⟨aA QO, _, (ax QO).trans (ae.au VA), (.t (.t (bk h fun yC H9 h => (aS (tB _ _ H9) (.t (sV h (fun acB h => ?_) (fun acB h => ?_)))))))⟩))⟩)⟩
 refine ⟨rfl, (.t ⟨rfl, _, rfl, (.t (.t (.t (bk h fun VB QP h => ⟨aA QP, _, (ax QP).trans (ae.au VB), (.t (.t (bk h fun abm acC h => (aS (tB _ _ acC) (.t ?_)))))⟩))))⟩)⟩
 exact asM
 refine .f (.f (.f (.f (.f (.f (.f ?_))))))
 exact asM
 refine .f (.f (.f (.f (.f (.f (.f (.f (.f (.f (.f (.f (.f ?_))))))))))))
 exact asM
 refine .f (.f (.f (.f (.f (.f (.f (.f (.f (.f (.f (.f (.f (.f (.f ?_))))))))))))))
 refine .f (.f (.f (.f ?_)))
 exact asM
 refine .d (sE h (fun acD h => ?_) (fun acD h => ?_))
 refine .d (sE h (fun acE h => ?_) (fun acE h => ?_))
 refine ⟨rfl, (.t ⟨rfl, _, rfl, (.t (bk h fun VC QQ h => ⟨aA QQ, _, (ax QQ).trans (ae.au VC), (.t (.t (bk h fun abn acF h => (aS (uU _ _ acF) (.t (sV h (fun acG h => ?_) (fun acG h => ?_)))))))⟩))⟩)⟩
 refine ⟨rfl, (.t ⟨rfl, _, rfl, (.t (bk h fun B9 Ak h => ⟨aA Ak, _, (ax Ak).trans (ae.au B9), (.t (.t (bk h fun Hq Ia h => (aS (tB _ _ Ia) (.t ?_)))))⟩))⟩)⟩
 exact asM
 refine .f (.f (.f (.f (.f ?_))))
 exact asM
 refine .f (.f (.f (.f (.f (.f (.f (.f (.f (.f (.f ?_))))))))))
 exact asM
 refine .d (sE h (fun acH h => ?_) (fun acH h => ?_))
 refine .d (bk h fun abo acI h => (aS (ny acI) (sV h (fun acJ h => ?_) (fun acJ h => ?_))))
 refine ⟨rfl, (.t ⟨rfl, _, rfl, (.t (.t (.t (bk h fun NL xw h => ⟨trivial, yF xw, NL.length, row ae.cells NL, uB xw, yG xw, (.t (bk h fun abp acK h => (aS (nx _ _ _ acK) (.t (sV h (fun Al h => ?_) (fun Al h => ?_))))))⟩))))⟩)⟩
 refine ⟨rfl, (.t ⟨rfl, _, rfl, (.t (bk h fun k5 rj h => ⟨aA rj, _, (ax rj).trans (ae.au k5), (.t (.t (.t (.t (sE h (fun acL h => ?_) (fun acL h => ?_))))))⟩))⟩)⟩
 refine ⟨rfl, (.t ⟨rfl, _, rfl, (.t (.t (.t (bk h fun VD QR h => ⟨aA QR, _, (ax QR).trans (ae.au VD), (.t (.t (.t (.t (sE h (fun acM h => ?_) (fun acM h => ?_))))))⟩))))⟩)⟩
 refine ⟨rfl, (.t ⟨rfl, _, rfl, (.t (.t (.t (bk h fun VE QS h => ⟨aA QS, _, (ax QS).trans (ae.au VE), (.t (.t (bk h fun tZ Ib h => (aS (tB _ _ Ib) (.t ?_)))))⟩))))⟩)⟩
 exact asM
 refine .f (.f (.f (.f (.f (.f (.f ?_))))))
 exact asM
 refine .f (.f (.f (.f (.f (.f (.f (.f (.f (.f (.f (.f (.f (.f (.f ?_))))))))))))))
 refine .f ?_
 exact asM
 refine .f (.f (.f (.f (.f (.f (.f (.f (.f (.f (.f (.f (.f (.f (.f ?_))))))))))))))
 refine .f (.f (.f (.f (.f (.f (.f (.f ?_)))))))
 exact asM
 refine .f (.f (.f (.f (.f (.f (.f (.f (.f (.f (.f (.f (.f (.f (.f ?_))))))))))))))
 refine .f (.f (.f (.f (.f (.f (.f (.f (.f (.f (.f (.f (.f (.f (.f ?_))))))))))))))
 exact asM
 refine .d (sE h (fun acN h => ?_) (fun acN h => ?_))
 refine .d (bk h fun Hr Ic h => (aS (ny Ic) (sV h (fun acO h => ?_) (fun acO h => ?_))))
 refine ⟨rfl, (.t ⟨rfl, _, rfl, (.t (bk h fun abq acP h => (aS (nx _ _ _ acP) (.t (sV h (fun acQ h => ?_) (fun acQ h => ?_))))))⟩)⟩
 refine .t (.t (sE h (fun Ie h => ?_) (fun Ie h => ?_)))
 refine .t (.t (.t (.t (.t (.t (.t (.t ?_)))))))
 exact asM
 refine ⟨rfl, (.f ⟨rfl, _, rfl, (.f (bk h fun VF QT h => ⟨aA QT, _, (ax QT).trans (ae.au VF), (.f (.f (.f (.t (.f (.t ?_))))))⟩))⟩)⟩
 exact asM
 refine .f (.f (.f (.f ?_)))
 exact asM
 refine .f (.f (.f (.f (.f (.f (.f (.f ?_)))))))
 exact asM
 refine .d (sE h (fun Ig h => ?_) (fun Ig h => ?_))
 refine .d ⟨rfl, _, rfl, (bk h fun abr acR h => (aS (tB _ _ acR) ?_))⟩
 exact asM
 refine .d (sE h (fun acS h => ?_) (fun acS h => ?_))
 refine .d (.d (bk h fun abt acT h => (aS (ny acT) (l7 h (fun acU h => ?_) (fun acU h => ?_)))))
 refine .t (.t (.t (.t (.t (.t (.t (.d ?_)))))))
 exact asM
 refine ⟨rfl, (.f ⟨rfl, _, rfl, (.f (bk h fun VG QU h => ⟨aA QU, _, (ax QU).trans (ae.au VG), (.f (.f (bk h fun abu acV h => (aS (tB _ _ acV) (.f (.f (l7 h (fun Ih h => ?_) (fun Ih h => ?_))))))))⟩))⟩)⟩
 refine .d ?_
 exact asM
 obtain ⟨Hs, acW, DJ⟩ := bd h
 replace h := acW
 refine .cut (fun σ η => .inl () = Hs ∧ σ = [] ∧ η = []) ?_ ?_
 refine .d ?_
 have acX := acd _ _ _ h
 refine le (ql (motive := fun acY eZ acZ => a0 = acY → Hs = acZ → aG _ _ [(1, .aL 0 0 0 0), (5, .int .i64 (a0.ah.length : Int)), (6, .int .i64 eZ)] [.row 0 4 1 29 (fun _ => a0.lit)]) ?_ a0 1 Hs acX rfl rfl) (tk [0] ⟨.p, .i, .i, ⟨⟩⟩ ⟨(cF rfl), ⟨⟩⟩)
 intro _ ac0 _ QV _ _ acY eZ acZ h QW  NO ac1
 subst NO
 subst ac1
 refine aG.round (.d (.d (sD h (fun Ii h => ?_) (fun Ii h => ?_))))
 refine .d (.d ⟨rfl, ⟨rfl, _, rfl, (bk h fun gG Ao h => ⟨aA Ao, _, (ax Ao).trans (ae.au gG), ⟨rfl, _, fun _ => [.int .i64 gG.ai, .int .i64 gG.aD, .str gG.aj, sl 4 ae.cells gG.ah], rfl, bX rfl, (.d ⟨rfl, _, rfl, ?_⟩)⟩⟩)⟩⟩)
 obtain ⟨⟨uS, Ac⟩, ac2, h⟩ := bd h
 refine aS (lA ac2) ?_
 obtain ⟨anV, ac3, ac4⟩ := bd h
 replace h := ac3
 refine .cut (fun σ η => ∃ wN, wN = anV ∧ σ = [(1, .aL 0 0 0 0), (5, .int .i64 (a0.ah.length : Int)), (6, .int .i64 eZ), (7, .aL 1 0 0 0), (8, .bool uS), (9, .bool Ac), (10, .bool wN)] ∧ η = [.row 0 4 1 29 (fun _ => a0.lit), .row 0 4 1 29 (fun _ => gG.lit)]) ?_ ?_
 refine ⟨rfl, ⟨rfl, _, rfl, (sE h (fun Ij h => ?_) (fun Ij h => ?_))⟩⟩
 refine .t (.t (sE h (fun Ik h => ?_) (fun Ik h => ?_)))
 refine ⟨rfl, (.t ⟨rfl, _, rfl, (.t (.t (.t (sE h (fun Il h => ?_) (fun Il h => ?_)))))⟩)⟩
 refine ⟨rfl, (.t ⟨rfl, _, rfl, (.t (bk h fun Cc Ap h => ⟨aA Ap, _, (ax Ap).trans (ae.au Cc), (.t (.t (.t (.t (sE h (fun Im h => ?_) (fun Im h => ?_))))))⟩))⟩)⟩
 refine ⟨rfl, (.t ⟨rfl, _, rfl, (.t (bk h fun Cd Aq h => ⟨aA Aq, _, (ax Aq).trans (ae.au Cd), (.t (.t (bk h fun EM ac5 h => (aS (ac0 _ _ ac5) (.t (sV h (fun ac6 h => ?_) (fun ac6 h => ?_)))))))⟩))⟩)⟩
 exact ⟨rfl, (.t ⟨rfl, _, rfl, (.t (bk h fun Ce QX h => ⟨aA QX, _, (ax QX).trans (ae.au Ce), (.t (.t (bk h fun EN ac7 h => (aS (QV _ _ ac7) (.t (ct ⟨_, si h, rfl, rfl⟩ (tk [0, 1] ⟨.p, .i, .i, .p, .b, .b, .b, ⟨⟩⟩ ⟨(cF rfl), (cF rfl), ⟨⟩⟩)))))))⟩))⟩)⟩
 exact .f (.f (.f (.f (.f (ct ⟨_, si h, rfl, rfl⟩ (tk [0, 1] ⟨.p, .i, .i, .p, .b, .b, .b, ⟨⟩⟩ ⟨(cF rfl), (cF rfl), ⟨⟩⟩))))))
 exact .f (.f (.f (.f (.f (.f (.f (.f (.f (.f (.f (ct ⟨_, si h, rfl, rfl⟩ (tk [0, 1] ⟨.p, .i, .i, .p, .b, .b, .b, ⟨⟩⟩ ⟨(cF rfl), (cF rfl), ⟨⟩⟩))))))))))))
 refine .f (.f (.f (.f (.f (.f (.f (.f (.f (.f (.f (.f (.f (.f (.f ?_))))))))))))))
 exact .f (.f (.f (ct ⟨_, si h, rfl, rfl⟩ (tk [0, 1] ⟨.p, .i, .i, .p, .b, .b, .b, ⟨⟩⟩ ⟨(cF rfl), (cF rfl), ⟨⟩⟩))))
 refine .f (.f (.f (.f (.f (.f (.f (.f (.f (.f (.f (.f (.f (.f (.f ?_))))))))))))))
 exact .f (.f (.f (.f (.f (.f (.f (.f (ct ⟨_, si h, rfl, rfl⟩ (tk [0, 1] ⟨.p, .i, .i, .p, .b, .b, .b, ⟨⟩⟩ ⟨(cF rfl), (cF rfl), ⟨⟩⟩)))))))))
 refine .f (.f (.f (.f (.f (.f (.f (.f (.f (.f (.f (.f (.f (.f (.f ?_))))))))))))))
 exact .f (.f (.f (.f (.f (.f (.f (.f (.f (.f (.f (ct ⟨_, si h, rfl, rfl⟩ (tk [0, 1] ⟨.p, .i, .i, .p, .b, .b, .b, ⟨⟩⟩ ⟨(cF rfl), (cF rfl), ⟨⟩⟩))))))))))))
 rintro _ _ ⟨wN, rfl, rfl, rfl⟩
 replace h := ac4
 obtain ⟨anW, ac8, ac9⟩ := bd h
 replace h := ac8
 refine .cut (fun σ η => ∃ yD, yD = anW ∧ σ = [(1, .aL 0 0 0 0), (5, .int .i64 (a0.ah.length : Int)), (6, .int .i64 eZ), (8, .bool uS), (9, .bool Ac), (10, .bool wN), (11, .bool yD)] ∧ η = [.row 0 4 1 29 (fun _ => a0.lit)]) ?_ ?_
 refine ⟨rfl, ⟨rfl, _, rfl, (sE h (fun ada h => ?_) (fun ada h => ?_))⟩⟩
 refine .t (.t (.t (.t (sE h (fun adb h => ?_) (fun adb h => ?_)))))
 refine ⟨rfl, (.t ⟨rfl, _, rfl, (.t (.t (.t (sE h (fun Ip h => ?_) (fun Ip h => ?_)))))⟩)⟩
 exact ⟨rfl, (.t ⟨rfl, _, rfl, (.t (bk h fun Cf QY h => ⟨aA QY, _, (ax QY).trans (ae.au Cf), (.t (.t (bk h fun EO ade h => (aS (QV _ _ ade) (.t (ct ⟨_, si h, rfl, rfl⟩ (tk [0] ⟨.p, .i, .i, .b, .b, .b, .b, ⟨⟩⟩ ⟨(cF rfl), ⟨⟩⟩)))))))⟩))⟩)⟩
 exact .f (.f (.f (.f (.f (ct ⟨_, si h, rfl, rfl⟩ (tk [0] ⟨.p, .i, .i, .b, .b, .b, .b, ⟨⟩⟩ ⟨(cF rfl), ⟨⟩⟩))))))
 exact .f (.f (.f (.f (.f (.f (.f (.f (.f (.f (ct ⟨_, si h, rfl, rfl⟩ (tk [0] ⟨.p, .i, .i, .b, .b, .b, .b, ⟨⟩⟩ ⟨(cF rfl), ⟨⟩⟩)))))))))))
 refine .f (.f (.f (.f (.f (.f (.f (.f (.f (.f (.f (.f (.f (.f (.f ?_))))))))))))))
 exact ct ⟨_, si h, rfl, rfl⟩ (tk [0] ⟨.p, .i, .i, .b, .b, .b, .b, ⟨⟩⟩ ⟨(cF rfl), ⟨⟩⟩)
 rintro _ _ ⟨yD, rfl, rfl, rfl⟩
 replace h := ac9
 refine .d (l7 h (fun adf h => ?_) (fun adf h => ?_))
 refine .t (.t (.t (.t (.t (.t (.t (.t (.d ?_))))))))
 obtain rfl := si h
 replace h := DJ
 exact asM
 refine .f (.f (l7 h (fun Iq h => ?_) (fun Iq h => ?_)))
 refine .t (.t (.t (.t (.t (.d ?_)))))
 obtain rfl := si h
 replace h := DJ
 exact asM
 refine .f (.f (l7 h (fun Ir h => ?_) (fun Ir h => ?_)))
 refine .t (.f (.t (.f (l7 h (fun adg h => ?_) (fun adg h => ?_)))))
 refine .d ?_
 obtain rfl := si h
 replace h := DJ
 exact asM
 exact lg (QW _ _ _ h rfl rfl) (tk [0] ⟨.p, .i, .i, ⟨⟩⟩ ⟨(cF rfl), ⟨⟩⟩)
 exact .f (.f (.f (.f (.f (lg (QW _ _ _ h rfl rfl) (tk [0] ⟨.p, .i, .i, ⟨⟩⟩ ⟨(cF rfl), ⟨⟩⟩))))))
 exact ata
 rintro _ _ ⟨rfl, rfl, rfl⟩
 replace h := DJ
 refine .d ?_
 exact asM
 exact ata
 rintro _ _ ⟨rfl, rfl, rfl⟩
 replace h := eH
 exact ate
 intro F0 F1 F2 lx ly hF2 a0 eZ o h
 exact .mk F0 lx F1 ly F2 hF2 a0 eZ o h
 intro _ adh a0 a1 r h
 refine gd Tryz.func149 ?_
 refine .d ?_
 obtain ⟨Hk, adi, QZ⟩ := bd h
 replace h := adi
 refine .cut (fun σ η => .inl () = Hk ∧ σ = [] ∧ η = []) ?_ ?_
 refine .d ?_
 have adj := adh _ _ _ h
 refine le (qj (motive := fun adk iy adl => a0 = adk → Hk = adl → aG _ _ [(0, sl 4 ae.cells a0), (5, .int .i64 iy)] []) ?_ a0 a1 Hk adj rfl rfl) (tk [] ⟨.l, .i, ⟨⟩⟩ ⟨⟩)
 intro _ adm _ _ adk iy adl h adn  NP ado
 subst NP
 subst ado
 refine aG.round (.d (.d (sD h (fun Is h => ?_) (fun Is h => ?_))))
 refine .d (.d (bk h fun Ca Q0 h => ⟨aA Q0, _, (ax Q0).trans (ae.au Ca), (bk h fun v131 It h => (aS (adm _ _ It) (l7 h (fun Iu h => ?_) (fun Iu h => ?_))))⟩))
 refine .d ?_
 obtain rfl := si h
 replace h := QZ
 exact eB h
 exact lg (adn _ _ _ h rfl rfl) (tk [] ⟨.l, .i, ⟨⟩⟩ ⟨⟩)
 exact ata
 rintro _ _ ⟨rfl, rfl, rfl⟩
 replace h := QZ
 exact ate
 intro F0 F1 lx ly a0 iy o h
 exact .mk F0 lx F1 ly a0 iy o h
 intro F0 F1 lx ly a0 oy o h
 exact .mk F0 lx F1 ly a0 oy o h
theorem wQ {a0 : ae} {r : Bool} (h : aT a0 = some r) : ACall Tryz.prog 80 [.agg a0.lit] [] (fun res h => res = .bool r ∧ h = []) := uT.2.2.1 a0 r h
def kJ (a0 : ae) : Option (Bool) :=
 jV a0 >>= fun v1 =>
 (if v1 = true then
 aT a0 >>= fun v4 =>
 some v4
 else
 some false)
theorem yH {a0 : ae} {r : Bool} (h : kJ a0 = some r) : ACall Tryz.prog 38 [.agg a0.lit] [] (fun res h => res = .bool r ∧ h = []) := by
 refine gd Tryz.func38 ?_
 unfold kJ at h
 refine .d (.d ⟨rfl, _, rfl, (bk h fun v1 lz h => (aS (wM lz) (sV h (fun ow h => ?_) (fun ow h => ?_))))⟩)
 exact ⟨rfl, _, rfl, (.t (bk h fun v4 uP h => (aS (wQ uP) (.t (eB h)))))⟩
 exact .f (.f (eB h))
set_option maxRecDepth 100000
def cR (a0 : List ae) (a1 : Int) (s5 : ar) (y6 : Int) : Option (ar) :=
 (if y6 < (a0.length : Int) then
 idx a0 y6 >>= fun x10 =>
 (if x10.ai = a1 then
 (
 (if s5 = ([] : ar) then
 some s5
 else
 aH s5 [44, 32] >>= fun s18 =>
 some s18)
 : Option (ar)) >>= fun Np =>
 idx a0 y6 >>= fun Q1 =>
 (if Q1.aD = 1 then
 aH Np [38] >>= fun s23 =>
 aH s23 [36] >>= fun V2 =>
 idx a0 y6 >>= fun x27 =>
 aH V2 x27.aj >>= fun s29 =>
 cR a0 a1 s29 (aU (y6 + 1))
 else
 aH Np [36] >>= fun s31 =>
 idx a0 y6 >>= fun Nq =>
 aH s31 Nq.aj >>= fun s35 =>
 cR a0 a1 s35 (aU (y6 + 1)))
 else
 cR a0 a1 s5 (aU (y6 + 1)))
 else
 some s5)
partial_fixpoint
def gg (a0 : List ae) (a1 : Int) : Option (ar) :=
 (
 cR a0 a1 [] 0
 : Option (ar)) >>= fun s1 =>
 aH [40] s1 >>= fun s39 =>
 aH s39 [41] >>= fun s41 =>
 some s41
theorem lB {a0 : List ae} {a1 : Int} {r : ar} (h : gg a0 a1 = some r) : ACall Tryz.prog 91 [sl 4 ae.cells a0, .int .i64 a1] [] (fun res h => res = .str r ∧ h = []) := by
 refine gd Tryz.func91 ?_
 unfold gg at h
 refine .d (.d ?_)
 obtain ⟨o2, uI, uJ⟩ := bd h
 replace h := uI
 refine .cut (fun σ η => ∃ s1, s1 = o2 ∧ σ = [(5, .str s1)] ∧ η = []) ?_ ?_
 refine .d ?_
 refine le (cR.partial_correctness a0 a1 (motive := fun s5 y6 o37 => o2 = o37 → aG _ _ [(0, sl 4 ae.cells a0), (1, .int .i64 a1), (5, .str s5), (6, .int .i64 y6)] []) ?_ [] 0 o2 h rfl) (tk [] ⟨.l, .i, .s, .i, ⟨⟩⟩ ⟨⟩)
 intro F8 yw s5 y6 o37 h anX
 subst anX
 refine aG.round (.d (.d (sD h (fun B3 h => ?_) (fun B3 h => ?_))))
 refine .d (.d (.d (bk h fun x10 Ar h => ⟨aA Ar, _, (ax Ar).trans (ae.au x10), (sN h (fun oc h => ?_) (fun oc h => ?_))⟩)))
 exact lg (yw _ _ _ h rfl) (tk [] ⟨.l, .i, .s, .i, ⟨⟩⟩ ⟨⟩)
 obtain ⟨o14, anY, anZ⟩ := bd h
 replace h := anY
 refine .cut (fun σ η => ∃ Np, Np = o14 ∧ σ = [(0, sl 4 ae.cells a0), (1, .int .i64 a1), (5, .str Np), (6, .int .i64 y6)] ∧ η = []) ?_ ?_
 refine .d (VP h (fun ri h => ?_) (fun ri h => ?_))
 exact bk h fun s18 Iv h => ⟨ay Iv, s18, az Iv, (ct ⟨_, si h, rfl, rfl⟩ (tk [] ⟨.l, .i, .s, .i, ⟨⟩⟩ ⟨⟩))⟩
 exact ct ⟨_, si h, rfl, rfl⟩ (tk [] ⟨.l, .i, .s, .i, ⟨⟩⟩ ⟨⟩)
 rintro _ _ ⟨Np, rfl, rfl, rfl⟩
 replace h := anZ
 refine .d (.d (bk h fun Q1 ER h => ⟨aA ER, _, (ax ER).trans (ae.au Q1), (sE h (fun Au h => ?_) (fun Au h => ?_))⟩))
 exact bk h fun s23 adp h => ⟨ay adp, s23, az adp, (bk h fun V2 Iw h => ⟨ay Iw, V2, az Iw, (bk h fun x27 adq h => ⟨aA adq, _, (ax adq).trans (ae.au x27), (bk h fun s29 ads h => ⟨ay ads, s29, az ads, (lg (yw _ _ _ h rfl) (tk [] ⟨.l, .i, .s, .i, ⟨⟩⟩ ⟨⟩))⟩)⟩)⟩)⟩
 exact bk h fun s31 adt h => ⟨ay adt, s31, az adt, (bk h fun Nq Ix h => ⟨aA Ix, _, (ax Ix).trans (ae.au Nq), (bk h fun s35 Iy h => ⟨ay Iy, s35, az Iy, (lg (yw _ _ _ h rfl) (tk [] ⟨.l, .i, .s, .i, ⟨⟩⟩ ⟨⟩))⟩)⟩)⟩
 exact atl
 rintro _ _ ⟨s1, rfl, rfl, rfl⟩
 replace h := uJ
 exact .d (bk h fun s39 adu h => ⟨ay adu, s39, az adu, (bk h fun s41 adv h => ⟨ay adv, s41, az adv, (eS h)⟩)⟩)
mutual
def bO (a0 : ae) (a1 : Int) : Option (ar) :=
 jW a0 >>= fun v1 =>
 (if v1 < a1 then
 fN a0 >>= fun v4 =>
 aH [40] v4 >>= fun s6 =>
 aH s6 [41] >>= fun s8 =>
 some s8
 else
 fN a0 >>= fun v10 =>
 some v10)
partial_fixpoint
def fN (a0 : ae) : Option (ar) :=
 ((
 (if a0.ai = 1 then
 m94 a0.aD >>= fun v16 =>
 some (.inr v16)
 else
 (if a0.ai = 2 then
 ib a0.aj >>= fun yI =>
 some (.inr yI)
 else
 (if a0.ai = 3 then
 ko ([[110, 117, 108, 108], [102, 97, 108, 115, 101], [116, 114, 117, 101]] : List ar) a0.aD >>= fun v22 =>
 some (.inr v22)
 else
 (if a0.ai = 4 then
 aH [36] a0.aj >>= fun V2 =>
 some (.inr V2)
 else
 (if a0.ai = 5 then
 (
 dR a0 [] 0
 : Option (ar)) >>= fun s28 =>
 aH [91] s28 >>= fun s77 =>
 aH s77 [93] >>= fun s79 =>
 some (.inr s79)
 else
 (if a0.ai = 7 then
 eg a0 12 [91] 1 >>= fun QF =>
 aH QF [93] >>= fun s84 =>
 some (.inr s84)
 else
 (if a0.ai = 8 then
 idx a0.ah 0 >>= fun x87 =>
 bO x87 12 >>= fun v89 =>
 aH v89 [45, 62] >>= fun s91 =>
 aH s91 a0.aj >>= fun s93 =>
 some (.inr s93)
 else
 (if a0.ai = 9 then
 idx a0.ah 0 >>= fun x96 =>
 ko ([[], [33], [45]] : List ar) a0.aD >>= fun Q2 =>
 bO x96 11 >>= fun adw =>
 aH Q2 adw >>= fun V3 =>
 some (.inr V3)
 else
 (if a0.ai = 10 then
 dc a0.aD >>= fun v105 =>
 jd a0.aD >>= fun v107 =>
 aH [32] v107 >>= fun V4 =>
 aH V4 [32] >>= fun V5 =>
 dc a0.aD >>= fun adx =>
 eg a0 v105 V5 (aU (adx + 1)) >>= fun Hj =>
 some (.inr Hj)
 else
 (if a0.ai = 12 then
 eg a0 4 [32, 124, 124, 32] 5 >>= fun ady =>
 some (.inr ady)
 else
 (if a0.ai = 11 then
 eg a0 5 [32, 38, 38, 32] 6 >>= fun adz =>
 some (.inr adz)
 else
 (if a0.ai = 13 then
 eg a0 4 [32, 63, 63, 32] 3 >>= fun v124 =>
 some (.inr v124)
 else
 (if a0.ai = 14 then
 idx a0.ah 2 >>= fun V6 =>
 eg a0 3 [32, 63, 32] 1 >>= fun Iz =>
 aH Iz [32, 58, 32] >>= fun V7 =>
 bO V6 2 >>= fun adA =>
 aH V7 adA >>= fun V8 =>
 some (.inr V8)
 else
 (if a0.ai = 15 then
 eg a0 12 [32, 61, 32] 1 >>= fun v138 =>
 some (.inr v138)
 else
 (if a0.ai = 16 then
 eg a0 12 [91, 93, 32, 61, 32] 1 >>= fun v141 =>
 some (.inr v141)
 else
 (if a0.ai = 17 then
 aH [36] a0.aj >>= fun V9 =>
 aH V9 [32, 61, 32, 38, 36] >>= fun Wa =>
 idx a0.ah 0 >>= fun Wb =>
 aH Wa Wb.aj >>= fun Wc =>
 some (.inr Wc)
 else
 (if a0.ai = 22 then
 aH [110, 101, 119, 32] a0.aj >>= fun Wd =>
 eJ a0.ah 0 >>= fun uV =>
 aH Wd uV >>= fun We =>
 some (.inr We)
 else
 (if a0.ai = 20 then
 idx a0.ah 0 >>= fun Wf =>
 bO Wf 12 >>= fun v162 =>
 aH v162 [45, 62] >>= fun Wg =>
 aH Wg a0.aj >>= fun Wh =>
 eJ a0.ah 1 >>= fun v168 =>
 aH Wh v168 >>= fun Wi =>
 some (.inr Wi)
 else
 (if a0.ai = 19 then
 idx a0.ah 0 >>= fun Wj =>
 (if Wj.ai = 8 then
 idx a0.ah 0 >>= fun Wk =>
 fN Wk >>= fun adB =>
 aH [40] adB >>= fun Wl =>
 aH Wl [41] >>= fun Wm =>
 eJ a0.ah 1 >>= fun adC =>
 aH Wm adC >>= fun Wn =>
 some (.inr Wn)
 else
 idx a0.ah 0 >>= fun Wo =>
 bO Wo 12 >>= fun adD =>
 eJ a0.ah 1 >>= fun adE =>
 aH adD adE >>= fun Wp =>
 some (.inr Wp))
 else
 (if a0.ai = 23 then
 gg a0.ah 24 >>= fun IA =>
 aH [102, 117, 110, 99, 116, 105, 111, 110, 32] IA >>= fun ID =>
 (if (a0.ah.length : Int) > 1 then
 idx a0.ah (aU ((a0.ah.length : Int) - 2)) >>= fun Wq =>
 (if Wq.ai = 25 then
 aH ID [32, 117, 115, 101, 32] >>= fun Wr =>
 gg a0.ah 25 >>= fun Av =>
 aH Wr Av >>= fun Ws =>
 aH Ws [32] >>= fun Wt =>
 idx a0.ah (aU ((a0.ah.length : Int) - 1)) >>= fun Wu =>
 bm Wu >>= fun adF =>
 aH Wt adF >>= fun Wv =>
 some (.inr Wv)
 else
 aH ID [32] >>= fun Ww =>
 idx a0.ah (aU ((a0.ah.length : Int) - 1)) >>= fun Wx =>
 bm Wx >>= fun adG =>
 aH Ww adG >>= fun Wy =>
 some (.inr Wy))
 else
 aH ID [32] >>= fun Wz =>
 idx a0.ah (aU ((a0.ah.length : Int) - 1)) >>= fun WA =>
 bm WA >>= fun adH =>
 aH Wz adH >>= fun WB =>
 some (.inr WB))
 else
 some (.inl ())))))))))))))))))))))
 : Option ((Unit) ⊕ ar)) >>= fun o12 => match o12 with
 | .inr r => some r
 | .inl _ =>
 eJ a0.ah 0 >>= fun adI =>
 aH a0.aj adI >>= fun WC =>
 some WC
 )
partial_fixpoint
def eJ (a0 : List ae) (a1 : Int) : Option (ar) :=
 (
 e9 a0 a1 [] a1
 : Option (ar)) >>= fun IF =>
 aH [40] IF >>= fun WD =>
 aH WD [41] >>= fun WE =>
 some WE
partial_fixpoint
def eg (a0 : ae) (a1 : Int) (a2 : ar) (a3 : Int) : Option (ar) :=
 idx a0.ah 0 >>= fun WG =>
 idx a0.ah 1 >>= fun B9 =>
 bO WG a1 >>= fun Hq =>
 aH Hq a2 >>= fun WH =>
 bO B9 a3 >>= fun adJ =>
 aH WH adJ >>= fun WI =>
 some WI
partial_fixpoint
def bm (a0 : ae) : Option (ar) :=
 (
 (if (a0.ah.length : Int) > 0 then
 idx a0.ah 0 >>= fun uW =>
 cy uW >>= fun wR =>
 (if wR = true then
 idx a0.ah 0 >>= fun uX =>
 bO uX 1 >>= fun wS =>
 some wS
 else
 some [])
 else
 some [])
 : Option (ar)) >>= fun ub =>
 ((
 (if a0.ai = 31 then
 aH [63, 62, 10] a0.aj >>= fun WJ =>
 aH WJ [60, 63, 32] >>= fun WK =>
 some (.inr WK)
 else
 (if a0.ai = 32 then
 aH [101, 99, 104, 111, 32] ub >>= fun WL =>
 aH WL [59] >>= fun WM =>
 some (.inr WM)
 else
 (if a0.ai = 33 then
 aH ub [59] >>= fun WN =>
 some (.inr WN)
 else
 (if a0.ai = 34 then
 aH [105, 102, 32, 40] ub >>= fun WO =>
 aH WO [41, 32] >>= fun WQ =>
 idx a0.ah 1 >>= fun Cg =>
 bm Cg >>= fun nz =>
 aH WQ nz >>= fun NQ =>
 (if (a0.ah.length : Int) = 3 then
 aH NQ [32, 101, 108, 115, 101, 32] >>= fun WR =>
 idx a0.ah 2 >>= fun WS =>
 bm WS >>= fun adK =>
 aH WR adK >>= fun WT =>
 some (.inr WT)
 else
 some (.inr NQ))
 else
 (if a0.ai = 35 then
 aH [119, 104, 105, 108, 101, 32, 40] ub >>= fun WU =>
 aH WU [41, 32] >>= fun WV =>
 idx a0.ah 1 >>= fun WW =>
 bm WW >>= fun adL =>
 aH WV adL >>= fun WX =>
 some (.inr WX)
 else
 (if a0.ai = 36 then
 aH [102, 111, 114, 101, 97, 99, 104, 32, 40] ub >>= fun WY =>
 aH WY [32, 97, 115, 32, 36] >>= fun WZ =>
 idx a0.ah 1 >>= fun W0 =>
 aH WZ W0.aj >>= fun NR =>
 (if (a0.ah.length : Int) = 4 then
 aH NR [32, 61, 62, 32, 36] >>= fun W1 =>
 idx a0.ah 2 >>= fun qm =>
 aH W1 qm.aj >>= fun W2 =>
 aH W2 [41, 32] >>= fun W3 =>
 idx a0.ah (aU ((a0.ah.length : Int) - 1)) >>= fun W4 =>
 bm W4 >>= fun adM =>
 aH W3 adM >>= fun W5 =>
 some (.inr W5)
 else
 aH NR [41, 32] >>= fun W6 =>
 idx a0.ah (aU ((a0.ah.length : Int) - 1)) >>= fun W7 =>
 bm W7 >>= fun adN =>
 aH W6 adN >>= fun W8 =>
 some (.inr W8))
 else
 (if a0.ai = 37 then
 some (.inr [98, 114, 101, 97, 107, 59])
 else
 (if a0.ai = 38 then
 some (.inr [99, 111, 110, 116, 105, 110, 117, 101, 59])
 else
 (if a0.ai = 39 then
 (if (a0.ah.length : Int) = 0 then
 some (.inr [114, 101, 116, 117, 114, 110, 59])
 else
 aH [114, 101, 116, 117, 114, 110, 32] ub >>= fun W9 =>
 aH W9 [59] >>= fun Xa =>
 some (.inr Xa))
 else
 (if a0.ai = 40 then
 aH [103, 108, 111, 98, 97, 108, 32, 36] a0.aj >>= fun Xb =>
 aH Xb [59] >>= fun Xc =>
 some (.inr Xc)
 else
 (if a0.ai = 41 then
 idx a0.ah 0 >>= fun Xd =>
 bO Xd 12 >>= fun adO =>
 aH [117, 110, 115, 101, 116, 40] adO >>= fun Xe =>
 aH Xe [41, 59] >>= fun Xf =>
 some (.inr Xf)
 else
 (if a0.ai = 42 then
 aH [116, 104, 114, 111, 119, 32] ub >>= fun Xg =>
 aH Xg [59] >>= fun Xh =>
 some (.inr Xh)
 else
 (if a0.ai = 46 then
 (if (a0.ah.length : Int) = 2 then
 idx a0.ah 0 >>= fun Xi =>
 aH [36] Xi.aj >>= fun Xj =>
 aH Xj [32, 61, 32, 121, 105, 101, 108, 100, 32] >>= fun Xk =>
 idx a0.ah 1 >>= fun Xl =>
 bO Xl 1 >>= fun adP =>
 aH Xk adP >>= fun Xm =>
 aH Xm [59] >>= fun Xn =>
 some (.inr Xn)
 else
 aH [121, 105, 101, 108, 100, 32] ub >>= fun Xo =>
 aH Xo [59] >>= fun Xp =>
 some (.inr Xp))
 else
 (if a0.ai = 47 then
 ib a0.aj >>= fun adQ =>
 aH [105, 110, 99, 108, 117, 100, 101, 32] adQ >>= fun Xq =>
 aH Xq [59] >>= fun Xr =>
 some (.inr Xr)
 else
 (if a0.ai = 48 then
 gI a0.ah >>= fun adR =>
 aH [123, 32] adR >>= fun Xs =>
 aH Xs [125] >>= fun Xt =>
 some (.inr Xt)
 else
 (if a0.ai = 43 then
 idx a0.ah 0 >>= fun Xu =>
 bm Xu >>= fun IG =>
 aH [116, 114, 121, 32] IG >>= fun NS =>
 (
 bR a0 NS 1
 : Option (ar)) >>= fun II =>
 some (.inr II)
 else
 (if a0.ai = 44 then
 aH [32, 99, 97, 116, 99, 104, 32, 40] a0.aj >>= fun Xv =>
 aH Xv [32, 36] >>= fun Xw =>
 idx a0.ah 0 >>= fun Xx =>
 aH Xw Xx.aj >>= fun Xy =>
 aH Xy [41, 32] >>= fun Xz =>
 idx a0.ah 1 >>= fun XA =>
 bm XA >>= fun adS =>
 aH Xz adS >>= fun XB =>
 some (.inr XB)
 else
 (if a0.ai = 45 then
 idx a0.ah 0 >>= fun XC =>
 bm XC >>= fun adT =>
 aH [32, 102, 105, 110, 97, 108, 108, 121, 32] adT >>= fun XD =>
 some (.inr XD)
 else
 some (.inl ())))))))))))))))))))
 : Option ((Unit) ⊕ ar)) >>= fun XE => match XE with
 | .inr r => some r
 | .inl _ =>
 nX a0 >>= fun adU =>
 some adU
 )
partial_fixpoint
def gI (a0 : List ae) : Option (ar) :=
 (
 fe a0 [] 0
 : Option (ar)) >>= fun IJ =>
 some IJ
partial_fixpoint
def nX (a0 : ae) : Option (ar) :=
 (
 (if (bits .and .i64 a0.aD 1) = 1 then
 some [112, 114, 105, 118, 97, 116, 101, 32]
 else
 some [])
 : Option (ar)) >>= fun ES =>
 (
 (if (bits .and .i64 a0.aD 2) = 2 then
 aH ES [115, 116, 97, 116, 105, 99, 32] >>= fun XF =>
 some XF
 else
 some ES)
 : Option (ar)) >>= fun Ch =>
 (
 (if a0.ai = 49 then
 some (a0.ai == 49)
 else
 some (a0.ai == 55))
 : Option (Bool)) >>= fun IK =>
 (if IK = true then
 aH Ch [102, 117, 110, 99, 116, 105, 111, 110, 32] >>= fun XG =>
 aH XG a0.aj >>= fun XH =>
 idx a0.ah (aU ((a0.ah.length : Int) - 1)) >>= fun XI =>
 gg a0.ah 24 >>= fun adV =>
 aH XH adV >>= fun XJ =>
 aH XJ [32] >>= fun XK =>
 bm XI >>= fun adW =>
 aH XK adW >>= fun XL =>
 some XL
 else
 (if a0.ai = 53 then
 aH [117, 115, 101, 32] a0.aj >>= fun XM =>
 aH XM [59] >>= fun XN =>
 some XN
 else
 (if a0.ai = 54 then
 aH Ch [36] >>= fun XO =>
 aH XO a0.aj >>= fun XP =>
 aH XP [32, 61, 32] >>= fun XR =>
 idx a0.ah 0 >>= fun XS =>
 fN XS >>= fun adX =>
 aH XR adX >>= fun XT =>
 aH XT [59] >>= fun XU =>
 some XU
 else
 aH [116, 114, 97, 105, 116, 32] a0.aj >>= fun XV =>
 (if a0.ai = 50 then
 aH [99, 108, 97, 115, 115, 32] a0.aj >>= fun IL =>
 (if (a0.ah.length : Int) > 0 then
 idx a0.ah 0 >>= fun XW =>
 (if XW.ai = 52 then
 aH IL [32, 101, 120, 116, 101, 110, 100, 115, 32] >>= fun XX =>
 idx a0.ah 0 >>= fun XY =>
 aH XX XY.aj >>= fun XZ =>
 aH XZ [32, 123, 32] >>= fun X0 =>
 gI a0.ah >>= fun adY =>
 aH X0 adY >>= fun X1 =>
 aH X1 [125] >>= fun X2 =>
 some X2
 else
 aH IL [32, 123, 32] >>= fun X3 =>
 gI a0.ah >>= fun yJ =>
 aH X3 yJ >>= fun X4 =>
 aH X4 [125] >>= fun X5 =>
 some X5)
 else
 aH IL [32, 123, 32] >>= fun X6 =>
 gI a0.ah >>= fun adZ =>
 aH X6 adZ >>= fun X7 =>
 aH X7 [125] >>= fun X8 =>
 some X8)
 else
 aH XV [32, 123, 32] >>= fun X9 =>
 gI a0.ah >>= fun ad0 =>
 aH X9 ad0 >>= fun Ya =>
 aH Ya [125] >>= fun Yb =>
 some Yb))))
partial_fixpoint
def dR (a0 : ae) (oz : ar) (lh : Int) : Option (ar) :=
 (if lh < (a0.ah.length : Int) then
 (
 (if lh > 0 then
 aH oz [44, 32] >>= fun Yc =>
 some Yc
 else
 some oz)
 : Option (ar)) >>= fun NT =>
 idx a0.ah lh >>= fun Yd =>
 idx Yd.ah 0 >>= fun Hg =>
 bO Hg 1 >>= fun NK =>
 aH NT NK >>= fun Nr =>
 idx a0.ah lh >>= fun Ye =>
 (if (Ye.ah.length : Int) = 2 then
 aH Nr [32, 61, 62, 32] >>= fun Yf =>
 idx a0.ah lh >>= fun Yg =>
 idx Yg.ah 1 >>= fun Yh =>
 bO Yh 1 >>= fun v68 =>
 aH Yf v68 >>= fun Yi =>
 dR a0 Yi (aU (lh + 1))
 else
 dR a0 Nr (aU (lh + 1)))
 else
 some oz)
partial_fixpoint
def e9 (a0 : List ae) (a1 : Int) (iA : ar) (fu : Int) : Option (ar) :=
 (if fu < (a0.length : Int) then
 (if fu > a1 then
 aH iA [44, 32] >>= fun Ci =>
 idx a0 fu >>= fun uY =>
 bO uY 1 >>= fun yK =>
 aH Ci yK >>= fun Cj =>
 e9 a0 a1 Cj (aU (fu + 1))
 else
 idx a0 fu >>= fun Ck =>
 bO Ck 1 >>= fun ET =>
 aH iA ET >>= fun Cl =>
 e9 a0 a1 Cl (aU (fu + 1)))
 else
 some iA)
partial_fixpoint
def bR (a0 : ae) (jj : ar) (iB : Int) : Option (ar) :=
 (if iB < (a0.ah.length : Int) then
 idx a0.ah iB >>= fun uZ =>
 bm uZ >>= fun uc =>
 aH jj uc >>= fun Cm =>
 bR a0 Cm (aU (iB + 1))
 else
 some jj)
partial_fixpoint
def fe (a0 : List ae) (iC : ar) (gm : Int) : Option (ar) :=
 (if gm < (a0.length : Int) then
 idx a0 gm >>= fun Cn =>
 (if Cn.ai = 52 then
 fe a0 iC (aU (gm + 1))
 else
 idx a0 gm >>= fun Co =>
 bm Co >>= fun EU =>
 aH iC EU >>= fun Cp =>
 aH Cp [32] >>= fun Cq =>
 fe a0 Cq (aU (gm + 1)))
 else
 some iC)
partial_fixpoint
end
def xx (a0 : ae) (a1 : Int) (r : ar) : Prop := ACall Tryz.prog 82 [.agg a0.lit, .int .i64 a1] [] (fun res h => res = .str r ∧ h = [])
def Q3 (a0 : ae) (r : ar) : Prop := ACall Tryz.prog 45 [.agg a0.lit] [] (fun res h => res = .str r ∧ h = [])
def Q4 (a0 : List ae) (a1 : Int) (r : ar) : Prop := ACall Tryz.prog 90 [sl 4 ae.cells a0, .int .i64 a1] [] (fun res h => res = .str r ∧ h = [])
def Q5 (a0 : ae) (a1 : Int) (a2 : ar) (a3 : Int) (r : ar) : Prop := ACall Tryz.prog 87 [.agg a0.lit, .int .i64 a1, .str a2, .int .i64 a3] [] (fun res h => res = .str r ∧ h = [])
def xy (a0 : ae) (r : ar) : Prop := ACall Tryz.prog 39 [.agg a0.lit] [] (fun res h => res = .str r ∧ h = [])
def Q6 (a0 : List ae) (r : ar) : Prop := ACall Tryz.prog 47 [sl 4 ae.cells a0] [] (fun res h => res = .str r ∧ h = [])
def Q7 (a0 : ae) (r : ar) : Prop := ACall Tryz.prog 84 [.agg a0.lit] [] (fun res h => res = .str r ∧ h = [])
inductive dC : ae → ar → Int → (ar) → Prop
 | mk (Cr : ae → Int → Option (ar)) (Yj : ∀ a0 a1 r, Cr a0 a1 = some r → xx a0 a1 r) (cU : ae → ar → Int → Option (ar)) (rk : ∀ a0 oz lh o, cU a0 oz lh = some o → dC a0 oz lh o) (a0 : ae) (oz : ar) (lh : Int) (o : ar) (h : (
 (if lh < (a0.ah.length : Int) then
 (
 (if lh > 0 then
 aH oz [44, 32] >>= fun Yc =>
 some Yc
 else
 some oz)
 : Option (ar)) >>= fun NT =>
 idx a0.ah lh >>= fun Yd =>
 idx Yd.ah 0 >>= fun Hg =>
 Cr Hg 1 >>= fun NK =>
 aH NT NK >>= fun Nr =>
 idx a0.ah lh >>= fun Ye =>
 (if (Ye.ah.length : Int) = 2 then
 aH Nr [32, 61, 62, 32] >>= fun Yf =>
 idx a0.ah lh >>= fun Yg =>
 idx Yg.ah 1 >>= fun Yh =>
 Cr Yh 1 >>= fun v68 =>
 aH Yf v68 >>= fun Yi =>
 cU a0 Yi (aU (lh + 1))
 else
 cU a0 Nr (aU (lh + 1)))
 else
 some oz)
 ) = some o) : dC a0 oz lh o
theorem qn {motive : ae → ar → Int → (ar) → Prop} (step : ∀ (Cr : ae → Int → Option (ar)) (Yj : ∀ a0 a1 r, Cr a0 a1 = some r → xx a0 a1 r) (cU : ae → ar → Int → Option (ar)) (rk : ∀ a0 oz lh o, cU a0 oz lh = some o → dC a0 oz lh o) (a0 : ae) (oz : ar) (lh : Int) (o : ar) (h : (
 (if lh < (a0.ah.length : Int) then
 (
 (if lh > 0 then
 aH oz [44, 32] >>= fun Yc =>
 some Yc
 else
 some oz)
 : Option (ar)) >>= fun NT =>
 idx a0.ah lh >>= fun Yd =>
 idx Yd.ah 0 >>= fun Hg =>
 Cr Hg 1 >>= fun NK =>
 aH NT NK >>= fun Nr =>
 idx a0.ah lh >>= fun Ye =>
 (if (Ye.ah.length : Int) = 2 then
 aH Nr [32, 61, 62, 32] >>= fun Yf =>
 idx a0.ah lh >>= fun Yg =>
 idx Yg.ah 1 >>= fun Yh =>
 Cr Yh 1 >>= fun v68 =>
 aH Yf v68 >>= fun Yi =>
 cU a0 Yi (aU (lh + 1))
 else
 cU a0 Nr (aU (lh + 1)))
 else
 some oz)
 ) = some o) (ih : ∀ a0 oz lh o, cU a0 oz lh = some o → motive a0 oz lh o), motive a0 oz lh o) : ∀ a0 oz lh o, dC a0 oz lh o → motive a0 oz lh o :=
 fun a0 oz lh o h => dC.rec (motive := fun a0 oz lh o _ => motive a0 oz lh o) step h
inductive dD : (List ae) → Int → ar → Int → (ar) → Prop
 | mk (Cr : ae → Int → Option (ar)) (Yj : ∀ a0 a1 r, Cr a0 a1 = some r → xx a0 a1 r) (cV : (List ae) → Int → ar → Int → Option (ar)) (rl : ∀ a0 a1 iA fu o, cV a0 a1 iA fu = some o → dD a0 a1 iA fu o) (a0 : List ae) (a1 : Int) (iA : ar) (fu : Int) (o : ar) (h : (
 (if fu < (a0.length : Int) then
 (if fu > a1 then
 aH iA [44, 32] >>= fun Ci =>
 idx a0 fu >>= fun uY =>
 Cr uY 1 >>= fun yK =>
 aH Ci yK >>= fun Cj =>
 cV a0 a1 Cj (aU (fu + 1))
 else
 idx a0 fu >>= fun Ck =>
 Cr Ck 1 >>= fun ET =>
 aH iA ET >>= fun Cl =>
 cV a0 a1 Cl (aU (fu + 1)))
 else
 some iA)
 ) = some o) : dD a0 a1 iA fu o
theorem qo {motive : (List ae) → Int → ar → Int → (ar) → Prop} (step : ∀ (Cr : ae → Int → Option (ar)) (Yj : ∀ a0 a1 r, Cr a0 a1 = some r → xx a0 a1 r) (cV : (List ae) → Int → ar → Int → Option (ar)) (rl : ∀ a0 a1 iA fu o, cV a0 a1 iA fu = some o → dD a0 a1 iA fu o) (a0 : List ae) (a1 : Int) (iA : ar) (fu : Int) (o : ar) (h : (
 (if fu < (a0.length : Int) then
 (if fu > a1 then
 aH iA [44, 32] >>= fun Ci =>
 idx a0 fu >>= fun uY =>
 Cr uY 1 >>= fun yK =>
 aH Ci yK >>= fun Cj =>
 cV a0 a1 Cj (aU (fu + 1))
 else
 idx a0 fu >>= fun Ck =>
 Cr Ck 1 >>= fun ET =>
 aH iA ET >>= fun Cl =>
 cV a0 a1 Cl (aU (fu + 1)))
 else
 some iA)
 ) = some o) (ih : ∀ a0 a1 iA fu o, cV a0 a1 iA fu = some o → motive a0 a1 iA fu o), motive a0 a1 iA fu o) : ∀ a0 a1 iA fu o, dD a0 a1 iA fu o → motive a0 a1 iA fu o :=
 fun a0 a1 iA fu o h => dD.rec (motive := fun a0 a1 iA fu o _ => motive a0 a1 iA fu o) step h
inductive dE : ae → ar → Int → (ar) → Prop
 | mk (IM : ae → Option (ar)) (Yk : ∀ a0 r, IM a0 = some r → xy a0 r) (eT : ae → ar → Int → Option (ar)) (rm : ∀ a0 jj iB o, eT a0 jj iB = some o → dE a0 jj iB o) (a0 : ae) (jj : ar) (iB : Int) (o : ar) (h : (
 (if iB < (a0.ah.length : Int) then
 idx a0.ah iB >>= fun uZ =>
 IM uZ >>= fun uc =>
 aH jj uc >>= fun Cm =>
 eT a0 Cm (aU (iB + 1))
 else
 some jj)
 ) = some o) : dE a0 jj iB o
theorem qp {motive : ae → ar → Int → (ar) → Prop} (step : ∀ (IM : ae → Option (ar)) (Yk : ∀ a0 r, IM a0 = some r → xy a0 r) (eT : ae → ar → Int → Option (ar)) (rm : ∀ a0 jj iB o, eT a0 jj iB = some o → dE a0 jj iB o) (a0 : ae) (jj : ar) (iB : Int) (o : ar) (h : (
 (if iB < (a0.ah.length : Int) then
 idx a0.ah iB >>= fun uZ =>
 IM uZ >>= fun uc =>
 aH jj uc >>= fun Cm =>
 eT a0 Cm (aU (iB + 1))
 else
 some jj)
 ) = some o) (ih : ∀ a0 jj iB o, eT a0 jj iB = some o → motive a0 jj iB o), motive a0 jj iB o) : ∀ a0 jj iB o, dE a0 jj iB o → motive a0 jj iB o :=
 fun a0 jj iB o h => dE.rec (motive := fun a0 jj iB o _ => motive a0 jj iB o) step h
inductive dF : (List ae) → ar → Int → (ar) → Prop
 | mk (IM : ae → Option (ar)) (Yk : ∀ a0 r, IM a0 = some r → xy a0 r) (cW : (List ae) → ar → Int → Option (ar)) (rn : ∀ a0 iC gm o, cW a0 iC gm = some o → dF a0 iC gm o) (a0 : List ae) (iC : ar) (gm : Int) (o : ar) (h : (
 (if gm < (a0.length : Int) then
 idx a0 gm >>= fun Cn =>
 (if Cn.ai = 52 then
 cW a0 iC (aU (gm + 1))
 else
 idx a0 gm >>= fun Co =>
 IM Co >>= fun EU =>
 aH iC EU >>= fun Cp =>
 aH Cp [32] >>= fun Cq =>
 cW a0 Cq (aU (gm + 1)))
 else
 some iC)
 ) = some o) : dF a0 iC gm o
theorem qq {motive : (List ae) → ar → Int → (ar) → Prop} (step : ∀ (IM : ae → Option (ar)) (Yk : ∀ a0 r, IM a0 = some r → xy a0 r) (cW : (List ae) → ar → Int → Option (ar)) (rn : ∀ a0 iC gm o, cW a0 iC gm = some o → dF a0 iC gm o) (a0 : List ae) (iC : ar) (gm : Int) (o : ar) (h : (
 (if gm < (a0.length : Int) then
 idx a0 gm >>= fun Cn =>
 (if Cn.ai = 52 then
 cW a0 iC (aU (gm + 1))
 else
 idx a0 gm >>= fun Co =>
 IM Co >>= fun EU =>
 aH iC EU >>= fun Cp =>
 aH Cp [32] >>= fun Cq =>
 cW a0 Cq (aU (gm + 1)))
 else
 some iC)
 ) = some o) (ih : ∀ a0 iC gm o, cW a0 iC gm = some o → motive a0 iC gm o), motive a0 iC gm o) : ∀ a0 iC gm o, dF a0 iC gm o → motive a0 iC gm o :=
 fun a0 iC gm o h => dF.rec (motive := fun a0 iC gm o _ => motive a0 iC gm o) step h
theorem yL : (∀ a0 a1 r, bO a0 a1 = some r → xx a0 a1 r) ∧ (∀ a0 r, fN a0 = some r → Q3 a0 r) ∧ (∀ a0 r, bm a0 = some r → xy a0 r) ∧ (∀ a0 r, nX a0 = some r → Q7 a0 r) ∧ (∀ a0 r, gI a0 = some r → Q6 a0 r) ∧ (∀ a0 iC gm o, fe a0 iC gm = some o → dF a0 iC gm o) ∧ (∀ a0 jj iB o, bR a0 jj iB = some o → dE a0 jj iB o) ∧ (∀ a0 a1 r, eJ a0 a1 = some r → Q4 a0 a1 r) ∧ (∀ a0 a1 iA fu o, e9 a0 a1 iA fu = some o → dD a0 a1 iA fu o) ∧ (∀ a0 a1 a2 a3 r, eg a0 a1 a2 a3 = some r → Q5 a0 a1 a2 a3 r) ∧ (∀ a0 oz lh o, dR a0 oz lh = some o → dC a0 oz lh o) := by
 refine bO.mutual_partial_correctness xx Q3 xy Q7 Q6 dF dE Q4 dD Q5 dC ?_ ?_ ?_ ?_ ?_ ?_ ?_ ?_ ?_ ?_ ?_
 intro _ xz a0 a1 r h
 refine gd Tryz.func82 ?_
 refine .d (.d (.d ⟨rfl, _, rfl, (bk h fun v1 lz h => (aS (wT lz) (sD h (fun ow h => ?_) (fun ow h => ?_))))⟩))
 exact .d ⟨rfl, _, rfl, (bk h fun v4 uP h => (aS (xz _ _ uP) (bk h fun s6 hx7 h => ⟨ay hx7, s6, az hx7, (bk h fun s8 Q8 h => ⟨ay Q8, s8, az Q8, (eS h)⟩)⟩)))⟩
 exact .d ⟨rfl, _, rfl, (bk h fun v10 IP h => (aS (xz _ _ IP) (eS h)))⟩
 intro _ _ _ _ _ _ nY xz ma Aw tC an0 a0 r h
 refine gd Tryz.func45 ?_
 refine .d (.d ⟨rfl, ⟨rfl, _, rfl, ?_⟩⟩)
 obtain ⟨o12, an1, lj⟩ := bd h
 replace h := an1
 refine .cut (fun σ η => .inl () = o12 ∧ σ = [(1, .aL 0 0 0 0), (3, sl 4 ae.cells a0.ah)] ∧ η = [.row 0 4 1 29 (fun _ => a0.lit)]) ?_ ?_
 refine .d ⟨rfl, ⟨rfl, _, rfl, (.d (sE h (fun lU h => ?_) (fun lU h => ?_)))⟩⟩
 refine .d ⟨rfl, ⟨rfl, _, rfl, (bk h fun v16 Yl h => (aS (an2 Yl) ?_))⟩⟩
 exact asO
 refine .d (sE h (fun wU h => ?_) (fun wU h => ?_))
 refine .d ⟨rfl, ⟨rfl, _, rfl, (bk h fun yI IQ h => (aS (oH IQ) ?_))⟩⟩
 exact asO
 refine .d (sE h (fun wV h => ?_) (fun wV h => ?_))
 refine .d ⟨row cS ([[110, 117, 108, 108], [102, 97, 108, 115, 101], [116, 114, 117, 101]] : List ar), aC cS ([[110, 117, 108, 108], [102, 97, 108, 115, 101], [116, 114, 117, 101]] : List ar) rfl (aB rfl), ⟨rfl, ⟨rfl, _, rfl, (bk h fun v22 an3 h => (pcS (tD an3) ⟨(.rx rfl), .i, ⟨⟩⟩ ?_))⟩⟩⟩
 exact asO
 refine .d (sE h (fun NU h => ?_) (fun NU h => ?_))
 refine .d ⟨rfl, ⟨rfl, _, rfl, (bk h fun V2 Iw h => ⟨ay Iw, V2, az Iw, ?_⟩)⟩⟩
 exact asO
 refine .d (sE h (fun NV h => ?_) (fun NV h => ?_))
 refine .d ?_
 obtain ⟨o29, an4, an5⟩ := bd h
 replace h := an4
 refine .cut (fun σ η => ∃ s28, s28 = o29 ∧ σ = [(4, .str s28)] ∧ η = []) ?_ ?_
 refine .d ?_
 have an6 := an0 _ _ _ _ h
 refine le (qn (motive := fun p74 oz lh o72 => a0 = p74 → o29 = o72 → aG _ _ [(3, sl 4 ae.cells a0.ah), (4, .str oz), (5, .int .i64 lh)] []) ?_ a0 [] 0 o29 an6 rfl rfl) (tk [] ⟨.l, .s, .i, ⟨⟩⟩ ⟨⟩)
 intro _ ad1 _ _ p74 oz lh o72 h ad2  Ym an7
 subst Ym
 subst an7
 refine aG.round (.d (.d (sD h (fun an8 h => ?_) (fun an8 h => ?_))))
 refine .d ?_
 obtain ⟨o45, an9, aoa⟩ := bd h
 replace h := an9
 refine .cut (fun σ η => ∃ NT, NT = o45 ∧ σ = [(3, sl 4 ae.cells a0.ah), (4, .str NT), (5, .int .i64 lh)] ∧ η = []) ?_ ?_
 refine .d (sD h (fun Yn h => ?_) (fun Yn h => ?_))
 exact bk h fun Yc IU h => ⟨ay IU, Yc, az IU, (ct ⟨_, si h, rfl, rfl⟩ (tk [] ⟨.l, .s, .i, ⟨⟩⟩ ⟨⟩))⟩
 exact ct ⟨_, si h, rfl, rfl⟩ (tk [] ⟨.l, .s, .i, ⟨⟩⟩ ⟨⟩)
 rintro _ _ ⟨NT, rfl, rfl, rfl⟩
 replace h := aoa
 refine .d (bk h fun Yd ad3 h => ⟨aA ad3, _, (ax ad3).trans (ae.au Yd), (bk h fun Hg HA h => ⟨aA HA, _, (ax HA).trans (ae.au Hg), (bk h fun NK VQ h => (aS (ad1 _ _ _ VQ) (bk h fun Nr ad4 h => ⟨ay ad4, Nr, az ad4, (.d (bk h fun Ye ad5 h => ⟨aA ad5, _, (ax ad5).trans (ae.au Ye), (sE h (fun HD h => ?_) (fun HD h => ?_))⟩))⟩)))⟩)⟩)
 exact bk h fun Yf ad6 h => ⟨ay ad6, Yf, az ad6, (bk h fun Yg ad7 h => ⟨aA ad7, _, (ax ad7).trans (ae.au Yg), (bk h fun Yh ad8 h => ⟨aA ad8, _, (ax ad8).trans (ae.au Yh), (bk h fun v68 aob h => (aS (ad1 _ _ _ aob) (bk h fun Yi ad9 h => ⟨ay ad9, Yi, az ad9, (lg (ad2 _ _ _ _ h rfl rfl) (tk [] ⟨.l, .s, .i, ⟨⟩⟩ ⟨⟩))⟩)))⟩)⟩)⟩
 exact lg (ad2 _ _ _ _ h rfl rfl) (tk [] ⟨.l, .s, .i, ⟨⟩⟩ ⟨⟩)
 exact atl
 rintro _ _ ⟨s28, rfl, rfl, rfl⟩
 replace h := an5
 refine .d (bk h fun s77 aea h => ⟨ay aea, s77, az aea, (bk h fun s79 aeb h => ⟨ay aeb, s79, az aeb, ?_⟩)⟩)
 exact asO
 refine .d (sE h (fun Yo h => ?_) (fun Yo h => ?_))
 refine .d ⟨rfl, _, rfl, (bk h fun QF HI h => (aS (tC _ _ _ _ _ HI) (bk h fun s84 IV h => ⟨ay IV, s84, az IV, ?_⟩)))⟩
 exact asO
 refine .d (sE h (fun aoc h => ?_) (fun aoc h => ?_))
 refine .d (.float [(0, true), (1, true), (2, true), (5, true), (6, true), (3, false), (4, true), (7, true), (8, true)] atE ?_)
 refine bk h fun x87 aec h => ⟨aA aec, _, (ax aec).trans (ae.au x87), ⟨rfl, ⟨rfl, _, rfl, (bk h fun v89 aod h => (aS (nY _ _ _ aod) ⟨rfl, ⟨rfl, (bk h fun s91 aed h => ⟨ay aed, s91, az aed, (bk h fun s93 aee h => ⟨ay aee, s93, az aee, ?_⟩)⟩)⟩⟩))⟩⟩⟩
 exact asO
 refine .d (sE h (fun Yp h => ?_) (fun Yp h => ?_))
 refine .d (.float [(1, true), (2, true), (4, true), (5, true), (6, true), (0, false), (3, false), (7, false), (8, true), (9, true)] atE ?_)
 refine ⟨rfl, ⟨rfl, _, rfl, (bk h fun x96 IW h => ⟨aA IW, _, (ax IW).trans (ae.au x96), ⟨row cS ([[], [33], [45]] : List ar), aC cS ([[], [33], [45]] : List ar) rfl (aB rfl), ⟨rfl, ⟨rfl, (bk h fun Q2 Yq h => (pcS (tD Yq) ⟨(.rx rfl), .i, ⟨⟩⟩ (bk h fun adw aef h => (aS (nY _ _ _ aef) (bk h fun V3 Q9 h => ⟨ay Q9, V3, az Q9, ?_⟩)))))⟩⟩⟩⟩)⟩⟩
 exact asO
 refine .d (sE h (fun IZ h => ?_) (fun IZ h => ?_))
 refine .d (.float [(0, true), (1, true), (2, true), (4, true), (5, true), (9, true), (10, true), (3, false), (6, false), (7, true), (8, true), (11, false), (12, true), (13, false), (14, true)] atE ?_)
 refine ⟨rfl, _, rfl, ⟨rfl, ⟨rfl, _, rfl, ⟨rfl, ⟨rfl, _, rfl, ⟨rfl, ⟨rfl, _, rfl, (bk h fun v105 aeg h => (aS (mv aeg) ⟨rfl, ⟨rfl, ⟨rfl, ⟨rfl, ⟨rfl, (bk h fun v107 I0 h => ?_)⟩⟩⟩⟩⟩))⟩⟩⟩⟩⟩⟩⟩
 refine aS (wW I0) ⟨rfl, ⟨rfl, ⟨rfl, (bk h fun V4 Ra h => ⟨ay Ra, V4, az Ra, (bk h fun V5 Rb h => ⟨ay Rb, V5, az Rb, (bk h fun adx aeh h => (aS (mv aeh) ⟨rfl, (bk h fun Hj HN h => (aS (tC _ _ _ _ _ HN) ?_))⟩))⟩)⟩)⟩⟩⟩
 exact asO
 refine .d (sE h (fun aei h => ?_) (fun aei h => ?_))
 refine .d ⟨rfl, _, rfl, (bk h fun ady aej h => (aS (tC _ _ _ _ _ aej) ?_))⟩
 exact asO
 refine .d (sE h (fun aek h => ?_) (fun aek h => ?_))
 refine .d ⟨rfl, _, rfl, (bk h fun adz ael h => (aS (tC _ _ _ _ _ ael) ?_))⟩
 exact asO
 refine .d (sE h (fun aem h => ?_) (fun aem h => ?_))
 refine .d ⟨rfl, _, rfl, (bk h fun v124 aen h => (aS (tC _ _ _ _ _ aen) ?_))⟩
 exact asO
 refine .d (sE h (fun I1 h => ?_) (fun I1 h => ?_))
 refine .d (.float [(0, true), (3, true), (4, true), (5, true), (1, false), (2, true), (6, false), (7, true), (8, true)] atE ?_)
 refine ⟨rfl, _, rfl, (bk h fun V6 Rc h => ⟨aA Rc, _, (ax Rc).trans (ae.au V6), (bk h fun Iz I2 h => (aS (tC _ _ _ _ _ I2) (bk h fun V7 Rd h => ⟨ay Rd, V7, az Rd, (bk h fun adA aeo h => (aS (nY _ _ _ aeo) (bk h fun V8 Ax h => ⟨ay Ax, V8, az Ax, ?_⟩)))⟩)))⟩)⟩
 exact asO
 refine .d (sE h (fun I3 h => ?_) (fun I3 h => ?_))
 refine .d ⟨rfl, _, rfl, (bk h fun v138 aep h => (aS (tC _ _ _ _ _ aep) ?_))⟩
 exact asO
 refine .d (sE h (fun aeq h => ?_) (fun aeq h => ?_))
 refine .d ⟨rfl, _, rfl, (bk h fun v141 aer h => (aS (tC _ _ _ _ _ aer) ?_))⟩
 exact asO
 refine .d (sE h (fun aes h => ?_) (fun aes h => ?_))
 refine .d ⟨rfl, ⟨rfl, _, rfl, (bk h fun V9 Re h => ⟨ay Re, V9, az Re, (bk h fun Wa Rf h => ⟨ay Rf, Wa, az Rf, (bk h fun Wb Rg h => ⟨aA Rg, _, (ax Rg).trans (ae.au Wb), (bk h fun Wc Rh h => ⟨ay Rh, Wc, az Rh, ?_⟩)⟩)⟩)⟩)⟩⟩
 exact asO
 refine .d (sE h (fun I4 h => ?_) (fun I4 h => ?_))
 refine .d (.float [(0, true), (1, true), (2, true), (3, true), (4, false), (5, true), (6, true)] atE ?_)
 refine ⟨rfl, ⟨rfl, _, rfl, (bk h fun Wd Ri h => ⟨ay Ri, Wd, az Ri, (bk h fun uV Ay h => (aS (Aw _ _ _ Ay) ⟨rfl, ⟨rfl, (bk h fun We Rj h => ⟨ay Rj, We, az Rj, ?_⟩)⟩⟩))⟩)⟩⟩
 exact asO
 refine .d (sE h (fun I5 h => ?_) (fun I5 h => ?_))
 refine .d (.float [(0, true), (1, true), (2, true), (5, true), (6, true), (8, true), (3, false), (4, true), (7, true), (9, false), (10, true), (11, true)] atE ?_)
 refine bk h fun Wf Rk h => ⟨aA Rk, _, (ax Rk).trans (ae.au Wf), ⟨rfl, ⟨rfl, _, rfl, (bk h fun v162 aet h => (aS (nY _ _ _ aet) ⟨rfl, ⟨rfl, (bk h fun Wg Rl h => ⟨ay Rl, Wg, az Rl, (bk h fun Wh Rm h => ⟨ay Rm, Wh, az Rm, (bk h fun v168 Ai h => (aS (Aw _ _ _ Ai) ⟨rfl, ?_⟩))⟩)⟩)⟩⟩))⟩⟩⟩
 refine ⟨rfl, (bk h fun Wi Rn h => ⟨ay Rn, Wi, az Rn, ?_⟩)⟩
 exact asO
 refine .d (sE h (fun HU h => ?_) (fun HU h => ?_))
 refine .d (.d (bk h fun Wj Ro h => ⟨aA Ro, _, (ax Ro).trans (ae.au Wj), (sE h (fun aeu h => ?_) (fun aeu h => ?_))⟩))
 refine .d (bk h fun Wk Rp h => ⟨aA Rp, _, (ax Rp).trans (ae.au Wk), (bk h fun adB aev h => (aS (xz _ _ aev) (bk h fun Wl Rq h => ⟨ay Rq, Wl, az Rq, (bk h fun Wm Rr h => ⟨ay Rr, Wm, az Rr, (bk h fun adC aew h => (aS (Aw _ _ _ aew) (bk h fun Wn xA h => ⟨ay xA, Wn, az xA, ?_⟩)))⟩)⟩)))⟩)
 exact asO
 refine .d (bk h fun Wo Rs h => ⟨aA Rs, _, (ax Rs).trans (ae.au Wo), (bk h fun adD aex h => (aS (nY _ _ _ aex) (bk h fun adE aey h => (aS (Aw _ _ _ aey) (bk h fun Wp Rt h => ⟨ay Rt, Wp, az Rt, ?_⟩)))))⟩)
 exact asO
 refine .d (sE h (fun aez h => ?_) (fun aez h => ?_))
 refine .d (bk h fun IA I6 h => (aS (lB I6) (bk h fun ID Ru h => ⟨ay Ru, ID, az Ru, (.d (.d (sD h (fun I7 h => ?_) (fun I7 h => ?_))))⟩)))
 refine .t (.t (.t (.t (bk h fun Wq Rv h => ⟨aA Rv, _, (ax Rv).trans (ae.au Wq), (.t (.t (.t (.t (sE h (fun aeA h => ?_) (fun aeA h => ?_))))))⟩))))
 refine bk h fun Wr Az h => ⟨ay Az, Wr, az Az, (bk h fun Av I8 h => (aS (lB I8) (bk h fun Ws Rw h => ⟨ay Rw, Ws, az Rw, (.d (bk h fun Wt Rx h => ⟨ay Rx, Wt, az Rx, (bk h fun Wu Ry h => ⟨aA Ry, _, (ax Ry).trans (ae.au Wu), (bk h fun adF aeB h => (aS (ma _ _ aeB) (bk h fun Wv Rz h => ⟨ay Rz, Wv, az Rz, ?_⟩)))⟩)⟩))⟩)))⟩
 exact asO
 refine .d (bk h fun Ww RA h => ⟨ay RA, Ww, az RA, (bk h fun Wx RB h => ⟨aA RB, _, (ax RB).trans (ae.au Wx), (bk h fun adG aeC h => (aS (ma _ _ aeC) (bk h fun Wy RC h => ⟨ay RC, Wy, az RC, ?_⟩)))⟩)⟩)
 exact asO
 refine .f (.f (.f (.f (.f (.f (.f (.f (.f (.d (bk h fun Wz RD h => ⟨ay RD, Wz, az RD, (bk h fun WA RE h => ⟨aA RE, _, (ax RE).trans (ae.au WA), (bk h fun adH aeD h => ?_)⟩)⟩))))))))))
 refine aS (ma _ _ aeD) (bk h fun WB RF h => ⟨ay RF, WB, az RF, ?_⟩)
 exact asO
 exact ct ⟨si h, rfl, rfl⟩ (tk [0] ⟨.p, .l, ⟨⟩⟩ ⟨(cF rfl), ⟨⟩⟩)
 rintro _ _ ⟨rfl, rfl, rfl⟩
 replace h := lj
 refine .d (.float [(0, true), (1, true), (2, true), (3, false), (4, true), (5, true)] atE ?_)
 exact ⟨rfl, ⟨rfl, _, rfl, (bk h fun adI aeE h => (aS (Aw _ _ _ aeE) ⟨rfl, ⟨rfl, (bk h fun WC RG h => ⟨ay RG, WC, az RG, (eS h)⟩)⟩⟩))⟩⟩
 intro _ _ _ _ _ nY ma aeF xB aeG a0 r h
 refine gd Tryz.func39 ?_
 refine .d (.d ⟨rfl, ⟨rfl, _, rfl, (.d ?_)⟩⟩)
 obtain ⟨aoe, aeH, aeI⟩ := bd h
 replace h := aeH
 refine .cut (fun σ η => ∃ ub, ub = aoe ∧ σ = [(1, .aL 0 0 0 0), (3, sl 4 ae.cells a0.ah), (4, .str ub)] ∧ η = [.row 0 4 1 29 (fun _ => a0.lit)]) ?_ ?_
 refine .d (sD h (fun aeJ h => ?_) (fun aeJ h => ?_))
 refine .t (bk h fun uW RH h => ⟨aA RH, _, (ax RH).trans (ae.au uW), (.t (.t (bk h fun wR aeK h => (aS (u5 aeK) (.t (sV h (fun aeL h => ?_) (fun aeL h => ?_)))))))⟩)
 exact bk h fun uX RI h => ⟨aA RI, _, (ax RI).trans (ae.au uX), (bk h fun wS aeM h => (aS (nY _ _ _ aeM) (ct ⟨_, si h, rfl, rfl⟩ (tk [0] ⟨.p, .l, .s, ⟨⟩⟩ ⟨(cF rfl), ⟨⟩⟩))))⟩
 exact atj
 exact .f (.f (.f (.f (.f (ct ⟨_, si h, rfl, rfl⟩ (tk [0] ⟨.p, .l, .s, ⟨⟩⟩ ⟨(cF rfl), ⟨⟩⟩))))))
 rintro _ _ ⟨ub, rfl, rfl, rfl⟩
 replace h := aeI
 obtain ⟨XE, aeN, iL⟩ := bd h
 replace h := aeN
 refine .cut (fun σ η => .inl () = XE ∧ σ = [(1, .aL 0 0 0 0)] ∧ η = [.row 0 4 1 29 (fun _ => a0.lit)]) ?_ ?_
 refine .d ⟨rfl, ⟨rfl, _, rfl, (.d (sE h (fun aeO h => ?_) (fun aeO h => ?_)))⟩⟩
 refine .d ⟨rfl, ⟨rfl, _, rfl, (bk h fun WJ RJ h => ⟨ay RJ, WJ, az RJ, (bk h fun WK RL h => ⟨ay RL, WK, az RL, ?_⟩)⟩)⟩⟩
 exact asP
 refine .d (sE h (fun I9 h => ?_) (fun I9 h => ?_))
 refine .d (bk h fun WL RM h => ⟨ay RM, WL, az RM, (bk h fun WM RN h => ⟨ay RN, WM, az RN, ?_⟩)⟩)
 exact asP
 refine .d (sE h (fun aeP h => ?_) (fun aeP h => ?_))
 refine .d (bk h fun WN RO h => ⟨ay RO, WN, az RO, ?_⟩)
 exact asP
 refine .d (sE h (fun aeQ h => ?_) (fun aeQ h => ?_))
 refine .d (bk h fun WO RP h => ⟨ay RP, WO, az RP, (bk h fun WQ RQ h => ⟨ay RQ, WQ, az RQ, (bk h fun Cg AA h => ⟨aA AA, _, (ax AA).trans (ae.au Cg), (bk h fun nz AB h => (aS (ma _ _ AB) (bk h fun NQ RR h => ⟨ay RR, NQ, az RR, (.d (.d (sE h (fun Ja h => ?_) (fun Ja h => ?_))))⟩)))⟩)⟩)⟩)
 refine bk h fun WR AD h => ⟨ay AD, WR, az AD, (bk h fun WS RS h => ⟨aA RS, _, (ax RS).trans (ae.au WS), (bk h fun adK aeR h => (aS (ma _ _ aeR) (bk h fun WT RT h => ⟨ay RT, WT, az RT, (.d ?_)⟩)))⟩)⟩
 exact asP
 refine .d ?_
 exact asP
 refine .d (sE h (fun aeS h => ?_) (fun aeS h => ?_))
 refine .d (bk h fun WU RU h => ⟨ay RU, WU, az RU, (bk h fun WV RV h => ⟨ay RV, WV, az RV, (bk h fun WW RW h => ⟨aA RW, _, (ax RW).trans (ae.au WW), (bk h fun adL aeT h => (aS (ma _ _ aeT) (bk h fun WX Ap h => ⟨ay Ap, WX, az Ap, ?_⟩)))⟩)⟩)⟩)
 exact asP
 refine .d (sE h (fun Im h => ?_) (fun Im h => ?_))
 refine .d (bk h fun WY Aq h => ⟨ay Aq, WY, az Aq, (bk h fun WZ RZ h => ⟨ay RZ, WZ, az RZ, (bk h fun W0 R2 h => ⟨aA R2, _, (ax R2).trans (ae.au W0), (bk h fun NR R3 h => ⟨ay R3, NR, az R3, (.d (.d (sE h (fun aeU h => ?_) (fun aeU h => ?_))))⟩)⟩)⟩)⟩)
 refine bk h fun W1 R4 h => ⟨ay R4, W1, az R4, (bk h fun qm AE h => ⟨aA AE, _, (ax AE).trans (ae.au qm), (bk h fun W2 R5 h => ⟨ay R5, W2, az R5, (.d (bk h fun W3 R6 h => ⟨ay R6, W3, az R6, (bk h fun W4 R7 h => ⟨aA R7, _, (ax R7).trans (ae.au W4), (bk h fun adM aeV h => (aS (ma _ _ aeV) (bk h fun W5 R8 h => ⟨ay R8, W5, az R8, ?_⟩)))⟩)⟩))⟩)⟩)⟩
 exact asP
 refine .d (bk h fun W6 R9 h => ⟨ay R9, W6, az R9, (bk h fun W7 Sa h => ⟨aA Sa, _, (ax Sa).trans (ae.au W7), (bk h fun adN aeW h => (aS (ma _ _ aeW) (bk h fun W8 Sb h => ⟨ay Sb, W8, az Sb, ?_⟩)))⟩)⟩)
 exact asP
 refine .d (sE h (fun aeX h => ?_) (fun aeX h => ?_))
 refine .d ?_
 exact asP
 refine .d (sE h (fun aeY h => ?_) (fun aeY h => ?_))
 refine .d ?_
 exact asP
 refine .d (sE h (fun aeZ h => ?_) (fun aeZ h => ?_))
 refine .d (.d (sE h (fun Jb h => ?_) (fun Jb h => ?_)))
 refine .d ?_
 exact asP
 refine .d (bk h fun W9 AF h => ⟨ay AF, W9, az AF, (bk h fun Xa Sd h => ⟨ay Sd, Xa, az Sd, ?_⟩)⟩)
 exact asP
 refine .d (sE h (fun ae0 h => ?_) (fun ae0 h => ?_))
 refine .d ⟨rfl, ⟨rfl, _, rfl, (bk h fun Xb Se h => ⟨ay Se, Xb, az Se, (bk h fun Xc Sf h => ⟨ay Sf, Xc, az Sf, ?_⟩)⟩)⟩⟩
 exact asP
 refine .d (sE h (fun Jc h => ?_) (fun Jc h => ?_))
 refine .d (bk h fun Xd Sg h => ⟨aA Sg, _, (ax Sg).trans (ae.au Xd), (bk h fun adO ae1 h => (aS (nY _ _ _ ae1) (bk h fun Xe Sh h => ⟨ay Sh, Xe, az Sh, (bk h fun Xf xC h => ⟨ay xC, Xf, az xC, ?_⟩)⟩)))⟩)
 exact asP
 refine .d (sE h (fun ae2 h => ?_) (fun ae2 h => ?_))
 refine .d (bk h fun Xg Si h => ⟨ay Si, Xg, az Si, (bk h fun Xh xD h => ⟨ay xD, Xh, az xD, ?_⟩)⟩)
 exact asP
 refine .d (sE h (fun ae3 h => ?_) (fun ae3 h => ?_))
 refine .d (.d (sE h (fun ae4 h => ?_) (fun ae4 h => ?_)))
 refine .d (.float [(0, true), (1, true), (2, true), (3, true), (4, true), (5, true), (6, true), (7, true), (8, true), (9, false), (10, true), (11, true), (12, true)] atE ?_)
 refine bk h fun Xi Sj h => ⟨aA Sj, _, (ax Sj).trans (ae.au Xi), (bk h fun Xj AG h => ⟨ay AG, Xj, az AG, (bk h fun Xk Sk h => ⟨ay Sk, Xk, az Sk, (bk h fun Xl Sl h => ⟨aA Sl, _, (ax Sl).trans (ae.au Xl), (bk h fun adP ae5 h => (aS (nY _ _ _ ae5) (bk h fun Xm tE h => ⟨ay tE, Xm, az tE, (bk h fun Xn Sm h => ⟨ay Sm, Xn, az Sm, ?_⟩)⟩)))⟩)⟩)⟩)⟩
 exact asP
 refine .d (bk h fun Xo Sn h => ⟨ay Sn, Xo, az Sn, (bk h fun Xp AH h => ⟨ay AH, Xp, az AH, ?_⟩)⟩)
 exact asP
 refine .d (sE h (fun ae6 h => ?_) (fun ae6 h => ?_))
 refine .d ⟨rfl, ⟨rfl, _, rfl, (bk h fun adQ ae7 h => (aS (oH ae7) (bk h fun Xq So h => ⟨ay So, Xq, az So, (bk h fun Xr AI h => ⟨ay AI, Xr, az AI, ?_⟩)⟩)))⟩⟩
 exact asP
 refine .d (sE h (fun Jd h => ?_) (fun Jd h => ?_))
 refine .d (bk h fun adR ae8 h => (aS (xB _ _ ae8) (bk h fun Xs Sp h => ⟨ay Sp, Xs, az Sp, (bk h fun Xt Sq h => ⟨ay Sq, Xt, az Sq, ?_⟩)⟩)))
 exact asP
 refine .d (sE h (fun ae9 h => ?_) (fun ae9 h => ?_))
 refine .d (bk h fun Xu Sr h => ⟨aA Sr, _, (ax Sr).trans (ae.au Xu), (bk h fun IG Je h => (aS (ma _ _ Je) (bk h fun NS Ss h => ⟨ay Ss, NS, az Ss, ?_⟩)))⟩)
 obtain ⟨Yr, afa, afb⟩ := bd h
 replace h := afa
 refine .cut (fun σ η => ∃ II, II = Yr ∧ σ = [(7, .str II)] ∧ η = []) ?_ ?_
 refine .d ?_
 have afc := aeG _ _ _ _ h
 refine le (qp (motive := fun afd jj iB afe => a0 = afd → Yr = afe → aG _ _ [(3, sl 4 ae.cells a0.ah), (7, .str jj), (8, .int .i64 iB)] []) ?_ a0 NS 1 Yr afc rfl rfl) (tk [] ⟨.l, .s, .i, ⟨⟩⟩ ⟨⟩)
 intro _ aff _ _ afd jj iB afe h afg  NW afh
 subst NW
 subst afh
 refine aG.round (.d (.d (sD h (fun afi h => ?_) (fun afi h => ?_))))
 exact .d (bk h fun uZ AJ h => ⟨aA AJ, _, (ax AJ).trans (ae.au uZ), (bk h fun uc Jf h => (aS (aff _ _ Jf) (bk h fun Cm St h => ⟨ay St, Cm, az St, (lg (afg _ _ _ _ h rfl rfl) (tk [] ⟨.l, .s, .i, ⟨⟩⟩ ⟨⟩))⟩)))⟩)
 exact atl
 rintro _ _ ⟨II, rfl, rfl, rfl⟩
 replace h := afb
 refine .d ?_
 exact asP
 refine .d (sE h (fun afj h => ?_) (fun afj h => ?_))
 refine .d (.float [(0, true), (1, true), (2, true), (3, true), (4, true), (5, true), (6, true), (7, true), (8, true), (9, true), (10, true), (11, true), (12, true), (13, false), (14, true), (15, true)] atE ?_)
 refine ⟨rfl, ⟨rfl, _, rfl, (bk h fun Xv Su h => ⟨ay Su, Xv, az Su, (bk h fun Xw Sv h => ⟨ay Sv, Xw, az Sv, (bk h fun Xx Sw h => ⟨aA Sw, _, (ax Sw).trans (ae.au Xx), (bk h fun Xy Sx h => ⟨ay Sx, Xy, az Sx, (bk h fun Xz Sy h => ⟨ay Sy, Xz, az Sy, (bk h fun XA Sz h => ⟨aA Sz, _, (ax Sz).trans (ae.au XA), (bk h fun adS afk h => ?_)⟩)⟩)⟩)⟩)⟩)⟩)⟩⟩
 refine aS (ma _ _ afk) ⟨rfl, ⟨rfl, (bk h fun XB SA h => ⟨ay SA, XB, az SA, ?_⟩)⟩⟩
 exact asP
 refine .d (sE h (fun afl h => ?_) (fun afl h => ?_))
 refine .d (bk h fun XC SB h => ⟨aA SB, _, (ax SB).trans (ae.au XC), (bk h fun adT afm h => (aS (ma _ _ afm) (bk h fun XD SC h => ⟨ay SC, XD, az SC, ?_⟩)))⟩)
 exact asP
 exact ct ⟨si h, rfl, rfl⟩ (tk [0] ⟨.p, ⟨⟩⟩ ⟨(cF rfl), ⟨⟩⟩)
 rintro _ _ ⟨rfl, rfl, rfl⟩
 replace h := iL
 exact .d ⟨rfl, _, rfl, (bk h fun adU afn h => (aS (aeF _ _ afn) (eS h)))⟩
 intro _ _ _ xz ma xB a0 r h
 refine gd Tryz.func84 ?_
 refine .d (.d ⟨rfl, ⟨rfl, _, rfl, (.d ?_)⟩⟩)
 obtain ⟨aof, afo, afp⟩ := bd h
 replace h := afo
 refine .cut (fun σ η => ∃ ES, ES = aof ∧ σ = [(1, .aL 0 0 0 0), (3, sl 4 ae.cells a0.ah), (4, .str ES)] ∧ η = [.row 0 4 1 29 (fun _ => a0.lit)]) ?_ ?_
 refine .d ⟨rfl, ⟨rfl, _, rfl, (sE h (fun afq h => ?_) (fun afq h => ?_))⟩⟩
 exact atj
 exact atj
 rintro _ _ ⟨ES, rfl, rfl, rfl⟩
 replace h := afp
 obtain ⟨aog, afr, afs⟩ := bd h
 replace h := afr
 refine .cut (fun σ η => ∃ Ch, Ch = aog ∧ σ = [(1, .aL 0 0 0 0), (3, sl 4 ae.cells a0.ah), (4, .str Ch)] ∧ η = [.row 0 4 1 29 (fun _ => a0.lit)]) ?_ ?_
 refine .d ⟨rfl, ⟨rfl, _, rfl, (sE h (fun aft h => ?_) (fun aft h => ?_))⟩⟩
 exact bk h fun XF SD h => ⟨ay SD, XF, az SD, (ct ⟨_, si h, rfl, rfl⟩ (tk [0] ⟨.p, .l, .s, ⟨⟩⟩ ⟨(cF rfl), ⟨⟩⟩))⟩
 exact atj
 rintro _ _ ⟨Ch, rfl, rfl, rfl⟩
 replace h := afs
 refine .d (.d ⟨rfl, ⟨rfl, _, rfl, ?_⟩⟩)
 obtain ⟨aoh, afu, afv⟩ := bd h
 replace h := afu
 refine .cut (fun σ η => ∃ IK, IK = aoh ∧ σ = [(1, .aL 0 0 0 0), (3, sl 4 ae.cells a0.ah), (4, .str Ch), (18, .int .i64 a0.ai), (19, .bool IK)] ∧ η = [.row 0 4 1 29 (fun _ => a0.lit)]) ?_ ?_
 refine .d (sE h (fun afw h => ?_) (fun afw h => ?_))
 exact ct ⟨_, si h, rfl, rfl⟩ (tk [0] ⟨.p, .l, .s, .i, .b, ⟨⟩⟩ ⟨(cF rfl), ⟨⟩⟩)
 exact ct ⟨_, si h, rfl, rfl⟩ (tk [0] ⟨.p, .l, .s, .i, .b, ⟨⟩⟩ ⟨(cF rfl), ⟨⟩⟩)
 rintro _ _ ⟨IK, rfl, rfl, rfl⟩
 replace h := afv
 refine sV h (fun afx h => ?_) (fun afx h => ?_)
 refine .d (.float [(0, true), (1, true), (2, true), (3, true), (4, true), (5, true), (9, true), (10, true), (11, true), (12, true), (13, true), (14, true), (6, false), (7, true), (8, true), (15, false), (16, true), (17, true)] atE ?_)
 refine bk h fun XG SE h => ⟨ay SE, XG, az SE, ⟨rfl, ⟨rfl, _, rfl, (bk h fun XH SF h => ⟨ay SF, XH, az SF, (bk h fun XI SG h => ⟨aA SG, _, (ax SG).trans (ae.au XI), (bk h fun adV afy h => (aS (lB afy) ⟨rfl, ⟨rfl, (bk h fun XJ SH h => ⟨ay SH, XJ, az SH, (bk h fun XK SI h => ?_)⟩)⟩⟩))⟩)⟩)⟩⟩⟩
 exact ⟨ay SI, XK, az SI, (bk h fun adW afz h => (aS (ma _ _ afz) ⟨rfl, ⟨rfl, (bk h fun XL SJ h => ⟨ay SJ, XL, az SJ, (eS h)⟩)⟩⟩))⟩
 refine .d (sE h (fun afA h => ?_) (fun afA h => ?_))
 exact .d ⟨rfl, ⟨rfl, _, rfl, (bk h fun XM SK h => ⟨ay SK, XM, az SK, (bk h fun XN SL h => ⟨ay SL, XN, az SL, (eS h)⟩)⟩)⟩⟩
 refine .d (sE h (fun afB h => ?_) (fun afB h => ?_))
 refine .d (.float [(0, true), (1, true), (2, true), (3, true), (4, true), (5, true), (6, true), (7, true), (8, true), (9, false), (10, true), (11, true), (12, true)] atE ?_)
 refine bk h fun XO SM h => ⟨ay SM, XO, az SM, ⟨rfl, ⟨rfl, _, rfl, (bk h fun XP SN h => ⟨ay SN, XP, az SN, (bk h fun XR SO h => ⟨ay SO, XR, az SO, (bk h fun XS SP h => ⟨aA SP, _, (ax SP).trans (ae.au XS), (bk h fun adX afC h => (aS (xz _ _ afC) ⟨rfl, ⟨rfl, (bk h fun XT SQ h => ?_)⟩⟩))⟩)⟩)⟩)⟩⟩⟩
 exact ⟨ay SQ, XT, az SQ, (bk h fun XU SR h => ⟨ay SR, XU, az SR, (eS h)⟩)⟩
 refine .d ⟨rfl, ⟨rfl, _, rfl, (bk h fun XV SS h => ⟨ay SS, XV, az SS, (.d (.d ⟨rfl, ⟨rfl, _, rfl, (sE h (fun afD h => ?_) (fun afD h => ?_))⟩⟩))⟩)⟩⟩
 refine .d ⟨rfl, ⟨rfl, _, rfl, (bk h fun IL SU h => ⟨ay SU, IL, az SU, (.d (sD h (fun afE h => ?_) (fun afE h => ?_)))⟩)⟩⟩
 refine .t (bk h fun XW SV h => ⟨aA SV, _, (ax SV).trans (ae.au XW), (.t (.t (.t (.t (sE h (fun afF h => ?_) (fun afF h => ?_))))))⟩)
 refine bk h fun XX SW h => ⟨ay SW, XX, az SW, (bk h fun XY SX h => ⟨aA SX, _, (ax SX).trans (ae.au XY), (bk h fun XZ SY h => ⟨ay SY, XZ, az SY, (.d (bk h fun X0 SZ h => ⟨ay SZ, X0, az SZ, (bk h fun adY afG h => (aS (xB _ _ afG) (bk h fun X1 S4 h => ⟨ay S4, X1, az S4, (bk h fun X2 S5 h => ⟨ay S5, X2, az S5, ?_⟩)⟩)))⟩))⟩)⟩)⟩
 exact eS h
 exact .d (bk h fun X3 AK h => ⟨ay AK, X3, az AK, (bk h fun yJ Jg h => (aS (xB _ _ Jg) (bk h fun X4 S6 h => ⟨ay S6, X4, az S6, (bk h fun X5 S7 h => ⟨ay S7, X5, az S7, (eS h)⟩)⟩)))⟩)
 refine .f (.f (.f (.f (.f (.f (.d (bk h fun X6 S8 h => ⟨ay S8, X6, az S8, (bk h fun adZ afH h => (aS (xB _ _ afH) (bk h fun X7 S9 h => ⟨ay S9, X7, az S9, (bk h fun X8 Ta h => ⟨ay Ta, X8, az Ta, ?_⟩)⟩)))⟩)))))))
 exact eS h
 exact .d (bk h fun X9 Tb h => ⟨ay Tb, X9, az Tb, (bk h fun ad0 afI h => (aS (xB _ _ afI) (bk h fun Ya Tc h => ⟨ay Tc, Ya, az Tc, (bk h fun Yb Td h => ⟨ay Td, Yb, az Td, (eS h)⟩)⟩)))⟩)
 intro _ afJ a0 r h
 refine gd Tryz.func47 ?_
 refine .d (.d ?_)
 obtain ⟨Ys, afK, afL⟩ := bd h
 replace h := afK
 refine .cut (fun σ η => ∃ IJ, IJ = Ys ∧ σ = [(3, .str IJ)] ∧ η = []) ?_ ?_
 refine .d ?_
 have afM := afJ _ _ _ _ h
 refine le (qq (motive := fun afN iC gm afO => a0 = afN → Ys = afO → aG _ _ [(0, sl 4 ae.cells a0), (3, .str iC), (4, .int .i64 gm)] []) ?_ a0 [] 0 Ys afM rfl rfl) (tk [] ⟨.l, .s, .i, ⟨⟩⟩ ⟨⟩)
 intro _ afP _ _ afN iC gm afO h Te  NX afQ
 subst NX
 subst afQ
 refine aG.round (.d (.d (sD h (fun afR h => ?_) (fun afR h => ?_))))
 refine .d (.d (bk h fun Cn Tf h => ⟨aA Tf, _, (ax Tf).trans (ae.au Cn), (sN h (fun afS h => ?_) (fun afS h => ?_))⟩))
 exact bk h fun Co Tg h => ⟨aA Tg, _, (ax Tg).trans (ae.au Co), (bk h fun EU afT h => (aS (afP _ _ afT) (bk h fun Cp Th h => ⟨ay Th, Cp, az Th, (bk h fun Cq Ti h => ⟨ay Ti, Cq, az Ti, (lg (Te _ _ _ _ h rfl rfl) (tk [] ⟨.l, .s, .i, ⟨⟩⟩ ⟨⟩))⟩)⟩)))⟩
 exact lg (Te _ _ _ _ h rfl rfl) (tk [] ⟨.l, .s, .i, ⟨⟩⟩ ⟨⟩)
 exact atl
 rintro _ _ ⟨IJ, rfl, rfl, rfl⟩
 replace h := afL
 exact .d (eS h)
 intro F0 F1 lx ly a0 iC gm o h
 exact .mk F0 lx F1 ly a0 iC gm o h
 intro F0 F1 lx ly a0 jj iB o h
 exact .mk F0 lx F1 ly a0 jj iB o h
 intro _ afU a0 a1 r h
 refine gd Tryz.func90 ?_
 refine .d (.d ?_)
 obtain ⟨Yt, afV, afW⟩ := bd h
 replace h := afV
 refine .cut (fun σ η => ∃ IF, IF = Yt ∧ σ = [(5, .str IF)] ∧ η = []) ?_ ?_
 refine .d ?_
 have afX := afU _ _ _ _ _ h
 refine le (qo (motive := fun afY afZ iA fu af0 => a0 = afY → a1 = afZ → Yt = af0 → aG _ _ [(0, sl 4 ae.cells a0), (1, .int .i64 a1), (5, .str iA), (6, .int .i64 fu)] []) ?_ a0 a1 [] a1 Yt afX rfl rfl rfl) (tk [] ⟨.l, .i, .s, .i, ⟨⟩⟩ ⟨⟩)
 intro _ Tj _ _ afY afZ iA fu af0 h Tk  NY NZ af1
 subst NY
 subst NZ
 subst af1
 refine aG.round (.d (.d (sD h (fun Jh h => ?_) (fun Jh h => ?_))))
 refine .d (.d (.d (sD h (fun af2 h => ?_) (fun af2 h => ?_))))
 exact bk h fun Ci Tl h => ⟨ay Tl, Ci, az Tl, (bk h fun uY AL h => ⟨aA AL, _, (ax AL).trans (ae.au uY), (bk h fun yK Ji h => (aS (Tj _ _ _ Ji) (bk h fun Cj Tm h => ⟨ay Tm, Cj, az Tm, (lg (Tk _ _ _ _ _ h rfl rfl rfl) (tk [] ⟨.l, .i, .s, .i, ⟨⟩⟩ ⟨⟩))⟩)))⟩)⟩
 exact bk h fun Ck Tn h => ⟨aA Tn, _, (ax Tn).trans (ae.au Ck), (bk h fun ET af3 h => (aS (Tj _ _ _ af3) (bk h fun Cl To h => ⟨ay To, Cl, az To, (lg (Tk _ _ _ _ _ h rfl rfl rfl) (tk [] ⟨.l, .i, .s, .i, ⟨⟩⟩ ⟨⟩))⟩)))⟩
 exact atl
 rintro _ _ ⟨IF, rfl, rfl, rfl⟩
 replace h := afW
 exact .d (bk h fun WD Tp h => ⟨ay Tp, WD, az Tp, (bk h fun WE Tq h => ⟨ay Tq, WE, az Tq, (eS h)⟩)⟩)
 intro F0 F1 lx ly a0 a1 iA fu o h
 exact .mk F0 lx F1 ly a0 a1 iA fu o h
 intro _ nY a0 a1 a2 a3 r h
 refine gd Tryz.func87 ?_
 refine .d (.d (.float [(0, true), (1, true), (2, true), (3, true), (4, true), (6, true), (8, true), (9, true), (10, true), (11, true), (12, true), (5, false), (7, true), (13, false), (14, true), (15, true)] atE ?_))
 refine ⟨rfl, ⟨rfl, _, rfl, (bk h fun WG Tr h => ⟨aA Tr, _, (ax Tr).trans (ae.au WG), ⟨rfl, ⟨rfl, _, rfl, (bk h fun B9 Ak h => ⟨aA Ak, _, (ax Ak).trans (ae.au B9), (bk h fun Hq Ia h => (aS (nY _ _ _ Ia) ⟨rfl, ⟨rfl, (bk h fun WH Ts h => ⟨ay Ts, WH, az Ts, (bk h fun adJ af4 h => ?_)⟩)⟩⟩))⟩)⟩⟩⟩)⟩⟩
 exact aS (nY _ _ _ af4) (bk h fun WI xw h => ⟨ay xw, WI, az xw, (eS h)⟩)
 intro F0 F1 lx ly a0 oz lh o h
 exact .mk F0 lx F1 ly a0 oz lh o h
theorem yM {a0 : ae} {r : ar} (h : bm a0 = some r) : ACall Tryz.prog 39 [.agg a0.lit] [] (fun res h => res = .str r ∧ h = []) := yL.2.2.1 a0 r h
def iM (a0 : ae) : Option (ar) :=
 kJ a0 >>= fun v1 =>
 (if v1 = true then
 bm a0 >>= fun v4 =>
 some v4
 else
 some [])
theorem ud {a0 : ae} {r : ar} (h : iM a0 = some r) : ACall Tryz.prog 11 [.agg a0.lit] [] (fun res h => res = .str r ∧ h = []) := by
 refine gd Tryz.func11 ?_
 unfold iM at h
 refine .d (.d (.d ⟨rfl, _, rfl, (bk h fun v1 lz h => (aS (yH lz) (l7 h (fun ow h => ?_) (fun ow h => ?_))))⟩))
 exact .d (eS h)
 exact .d ⟨rfl, _, rfl, (bk h fun v4 uP h => (aS (yM uP) (eS h)))⟩
theorem ACall.ext {P : Program} {f : FuncId} {args : List PV} {r : PV} (ue : af5 P f)
  (H : ∀ (w : World) (vs : Array Value) (S : Nat → Prop), Ns S w → (∀ b, S b → b < w.heap.size) → vs.size = args.length → (∀ (j : Nat) (pv : PV), args[j]? = some pv → ∃ v, vs[j]? = some v ∧ aE S w pv v) →
   Calls P f vs w (fun e w' => ∃ v, e = .returned v ∧ (∀ μ h S w, aZ μ h S w r v) ∧ Below w.heap.size w w'))
  (hp : args.all rp = true) (h : List ak) : ACall P f args h (fun res h' => res = r ∧ h' = h) := by
 refine ⟨ue, fun w vs μ S hH hM fv ha => (H w vs S hM.known hM.slt fv (fun j pv hj => ?_)).mono ?_⟩
 ·obtain ⟨v, h1, h2⟩ := ha j pv hj
  have h3 := aqX.1 hp pv (ari hj)
  cases pv <;> first | exact ⟨v, h1, h2⟩ | (simp [rp] at h3)
 ·rintro e w' ⟨v, rfl, hv, hb⟩
  have ag : bF w w' := ⟨hb.block, hb.size, hb.os, hb.tape, hb.output⟩
  exact ⟨v, r, h, μ, S, rfl, ⟨rfl, rfl⟩, hv _ _ _ _, hH.agree ag hM, hM.agree ag, Fr.rq ag⟩
theorem Jj {vs : Array Value} {a : Value} (hs : vs.size = 1) (h0 : vs[0]? = some a) : vs = #[a] := by
 obtain ⟨l⟩ := vs
 rcases l with _ | ⟨b, _ | ⟨c, l⟩⟩ <;> simp at hs
 simp at h0; subst h0; rfl
theorem Tt {vs : Array Value} {a b : Value} (hs : vs.size = 2) (h0 : vs[0]? = some a) (h1 : vs[1]? = some b) : vs = #[a, b] := by
 obtain ⟨l⟩ := vs
 rcases l with _ | ⟨x, _ | ⟨y, _ | ⟨z, l⟩⟩⟩ <;> simp at hs
 simp at h0 h1; subst h0; subst h1; rfl
theorem Yu {P : Program} {w : World} {n : String} {g : Nat} {cs : Array Value} {t : TypeId} {z : Nat × Nat} (hg : P.globalNamed n = some g) (h : w.heap[g]? = some (.cells cs t z)) : w.var? P n = some cs := by
 unfold World.var?
 rw [hg]
 simp [h]
theorem Yv : Tryz.prog.globalNamed "internal/strconv.uint64pow10" = some 1 := by kernel_rfl
theorem Jk : Lib.pow10Tab = AM := by decide
theorem N0 {S : Nat → Prop} {w : World} (h : Ns S w) : Lib.TabIs Tryz.prog w "internal/strconv.uint64pow10" .u64 Lib.pow10Tab := by
 obtain ⟨_, t, z, hh⟩ := h.1 (1, _) (by simp [yN]; rfl)
 unfold Lib.TabIs
 rw [Yu Yv hh, Jk]
theorem DK {S : Nat → Prop} {w : World} (h : Ns S w) : ∃ m, w.cell? ⟨0, 0, none⟩ = some (.int .i64 m) := by
 obtain ⟨_, m, t, z, hh⟩ := h.2.2 0 (by simp [yO])
 exact ⟨m, by simp [World.cell?, hh]⟩
theorem Cs (w : World) (k : Nat) (os : Array Obj) : Below w.heap.size w (Sort.grow (w.drewN k) os) := by
 refine ⟨rfl, rfl, rfl, ?_, fun i hi => ?_⟩
 ·show w.heap.size ≤ (w.heap ++ os).size
  simp
 ·show (w.heap ++ os)[i]? = w.heap[i]?
  rw [arJ hi]
theorem N1 (n : Int) (h0 : -9223372036854775808 ≤ n) (h1 : n ≤ 9223372036854775807) (h : List ak) : ACall Tryz.prog 201 [.int .i64 n] h (fun res h' => res = .str (Lib.itoa n) ∧ h' = h) := by
 refine ACall.ext ⟨_, _, Tryz.func201, rfl, by kernel_rfl⟩ (fun w vs S ha hS fv hj => ?_) rfl h
 obtain ⟨v, hv, hp⟩ := hj 0 _ rfl
 cases hp
 obtain rfl := Jj fv hv
 refine (Tryz.strconv_Itoa n h0 h1 w (N0 ha)).mono ?_
 rintro e w' ⟨rfl, k, os, rfl⟩
 exact ⟨_, rfl, fun _ _ _ _ => .str _, Cs _ _ _⟩
theorem AN (s sub : List UInt8) (hs : s.length < 4294967281) (h : List ak) : ACall Tryz.prog 136 [.str s, .str sub] h (fun res h' => res = .bool (decide (0 ≤ Lib.index s sub)) ∧ h' = h) := by
 refine ACall.ext ⟨_, _, Tryz.func136, rfl, by kernel_rfl⟩ (fun w vs S ha hS fv hj => ?_) rfl h
 obtain ⟨v, hv, hp⟩ := hj 0 _ rfl
 cases hp
 obtain ⟨v', hv', uf⟩ := hj 1 _ rfl
 cases uf
 obtain rfl := Tt fv hv hv'
 obtain ⟨m, hm⟩ := DK ha
 refine (Tryz.strings_Contains ⟨⟨s⟩⟩ ⟨⟨sub⟩⟩ m w hs hm).mono ?_
 rintro e w' ⟨rfl, rfl⟩
 exact ⟨_, rfl, fun _ _ _ _ => .bool _, Below.refl _ _⟩
theorem Yw (s sep : List UInt8) (hs : s.length < 4294967281) (h : List ak) : ACall Tryz.prog 198 [.str s, .str sep] h (fun res h' => res = .aV [.str (Lib.cut s sep).1, .str (Lib.cut s sep).2.1, .bool (Lib.cut s sep).2.2] ∧ h' = h) := by
 refine ACall.ext ⟨_, _, Tryz.func198, rfl, by kernel_rfl⟩ (fun w vs S ha hS fv hj => ?_) rfl h
 obtain ⟨v, hv, hp⟩ := hj 0 _ rfl
 cases hp
 obtain ⟨v', hv', uf⟩ := hj 1 _ rfl
 cases uf
 obtain rfl := Tt fv hv hv'
 obtain ⟨m, hm⟩ := DK ha
 refine (Tryz.strings_Cut ⟨⟨s⟩⟩ ⟨⟨sep⟩⟩ m w hs hm).mono ?_
 rintro e w' ⟨rfl, n, rfl⟩
 refine ⟨_, rfl, fun μ h S w' => ⟨_, rfl, rfl, fun j pv hj => ?_⟩, ?_⟩
 ·match j with
  | 0 => cases hj; exact ⟨_, rfl, .str _⟩
  | 1 => cases hj; exact ⟨_, rfl, .str _⟩
  | 2 => cases hj; exact ⟨_, rfl, .bool _⟩
  | j + 3 => simp at hj
 ·exact ⟨rfl, rfl, rfl, aqQ _, fun _ _ => rfl⟩
def m73 (n : Int) : Option ar := if -9223372036854775808 ≤ n ∧ n ≤ 9223372036854775807 then some (Lib.itoa n) else none
theorem aoi {n : Int} {r : ar} (h : m73 n = some r) : ACall Tryz.prog 201 [.int .i64 n] [] (fun res h => res = .str r ∧ h = []) := by
 obtain ⟨⟨h0, h1⟩, rfl⟩ := bz h
 exact N1 n h0 h1 []
def jX (s p : ar) : Option Bool := if s.length < 4294967281 then some (decide (0 ≤ Lib.index s p)) else none
theorem qs {s p : ar} {r : Bool} (h : jX s p = some r) : ACall Tryz.prog 136 [.str s, .str p] [] (fun res h => res = .bool r ∧ h = []) := by
 obtain ⟨h0, rfl⟩ := bz h
 exact AN s p h0 []
def nA (s p : ar) : Option (ar × ar × Bool) := if s.length < 4294967281 then some (Lib.cut s p) else none
theorem wX {s p : ar} {r : ar × ar × Bool} (h : nA s p = some r) : ACall Tryz.prog 198 [.str s, .str p] [] (fun res h => res = .aV [.str r.1, .str r.2.1, .bool r.2.2] ∧ h = []) := by
 obtain ⟨h0, rfl⟩ := bz h
 exact Yw s p h0 []
end Go.Am
