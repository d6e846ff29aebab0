/- Texts of the proof, joined and shortened. -/
import Derived.Test.YtiigfbapjeefbaaGreatDoorPk4
import Derived.Test.YtiigfbapjeefbaaGreatDoorShelf
import Derived.WalkKit
import Derived.BigCall
set_option linter.unusedVariables false
set_option linter.unusedSimpArgs false
namespace Go.Am
open Go Go.RowKit Go.Proofs
mutual
def fZ (a0 : ae) : Option (Int) :=
 (
 eN a0 0 0
 : Option (Int)) >>= fun y1 =>
 some (aT (y1 + 1))
partial_fixpoint
def eN (a0 : ae) (y5 : Int) (y6 : Int) : Option (Int) :=
 (if y6 < (a0.ah.length : Int) then
 idx a0.ah y6 >>= fun qe =>
 fZ qe >>= fun oD =>
 Vi y5 oD >>= fun wG =>
 eN a0 wG (aT (y6 + 1))
 else
 some y5)
partial_fixpoint
end
def DE (a0 : ae) (r : Int) : Prop := ACall Tryz.prog 30 [.agg a0.lit] [] (fun res h => res = .int .i64 r ∧ h = [])
inductive cE : ae → Int → Int → (Int) → Prop
 | mk (G30 : ae → Option (Int)) (ani : ∀ a0 r, G30 a0 = some r → DE a0 r) (dw : ae → Int → Int → Option (Int)) (pP : ∀ a0 y5 y6 o, dw a0 y5 y6 = some o → cE a0 y5 y6 o) (a0 : ae) (y5 : Int) (y6 : Int) (o : Int) (h : (
 (if y6 < (a0.ah.length : Int) then
 idx a0.ah y6 >>= fun qe =>
 G30 qe >>= fun oD =>
 Vi y5 oD >>= fun wG =>
 dw a0 wG (aT (y6 + 1))
 else
 some y5)
 ) = some o) : cE a0 y5 y6 o
theorem oE {motive : ae → Int → Int → (Int) → Prop} (step : ∀ (G30 : ae → Option (Int)) (ani : ∀ a0 r, G30 a0 = some r → DE a0 r) (dw : ae → Int → Int → Option (Int)) (pP : ∀ a0 y5 y6 o, dw a0 y5 y6 = some o → cE a0 y5 y6 o) (a0 : ae) (y5 : Int) (y6 : Int) (o : Int) (h : (
 (if y6 < (a0.ah.length : Int) then
 idx a0.ah y6 >>= fun qe =>
 G30 qe >>= fun oD =>
 Vi y5 oD >>= fun wG =>
 dw a0 wG (aT (y6 + 1))
 else
 some y5)
 ) = some o) (ih : ∀ a0 y5 y6 o, dw a0 y5 y6 = some o → motive a0 y5 y6 o), motive a0 y5 y6 o) : ∀ a0 y5 y6 o, cE a0 y5 y6 o → motive a0 y5 y6 o :=
 fun a0 y5 y6 o h => cE.rec (motive := fun a0 y5 y6 o _ => motive a0 y5 y6 o) step h
theorem sA : (∀ a0 r, fZ a0 = some r → DE a0 r) ∧ (∀ a0 y5 y6 o, eN a0 y5 y6 = some o → cE a0 y5 y6 o) := by
 refine fZ.mutual_partial_correctness DE cE ?_ ?_
 intro _ Vj a0 r h
 refine gd Tryz.func30 ?_
 refine .d (.d ?_)
 obtain ⟨o2, uG, uH⟩ := bd h
 replace h := uG
 refine .cut (fun σ η => ∃ y1, y1 = o2 ∧ σ = [(3, .int .i64 y1)] ∧ η = []) ?_ ?_
 refine .d ?_
 have Vk := Vj _ _ _ _ h
 refine le (oE (motive := fun p19 y5 y6 o17 => a0 = p19 → o2 = o17 → aG _ _ [(1, .aM 0 0 0 0), (3, .int .i64 y5), (4, .int .i64 y6)] [.row 0 4 1 29 (fun _ => a0.lit)]) ?_ a0 0 0 o2 Vk rfl rfl) (tk [0] ⟨.p, .i, .i, ⟨⟩⟩ ⟨(cF rfl), ⟨⟩⟩)
 intro _ Vl _ _ p19 y5 y6 o17 h yq  B5 Vm
 subst B5
 subst Vm
 refine aG.round (.d (.d ⟨rfl, ⟨rfl, _, rfl, (sD h (fun lT h => ?_) (fun lT h => ?_))⟩⟩))
 exact .d ⟨rfl, ⟨rfl, _, rfl, (bk h fun qe uI h => ⟨aA uI, _, (ax uI).trans (ae.au qe), (bk h fun oD qf h => (aS (Vl _ _ qf) (bk h fun wG B6 h => (aS (anj B6) (lg (yq _ _ _ _ h rfl rfl) (tk [0] ⟨.p, .i, .i, ⟨⟩⟩ ⟨(cF rfl), ⟨⟩⟩))))))⟩)⟩⟩
 exact ath
 exact asQ
 exact asU
theorem uJ {a0 : ae} {r : Int} (h : fZ a0 = some r) : ACall Tryz.prog 30 [.agg a0.lit] [] (fun res h => res = .int .i64 r ∧ h = []) := sA.1 a0 r h
mutual
def gK (a0 : ae) : Option (Int) :=
 (
 fD a0 1 0
 : Option (Int)) >>= fun y1 =>
 some y1
partial_fixpoint
def fD (a0 : ae) (y5 : Int) (y6 : Int) : Option (Int) :=
 (if y6 < (a0.ah.length : Int) then
 idx a0.ah y6 >>= fun qe =>
 gK qe >>= fun oD =>
 fD a0 (aT (y5 + oD)) (aT (y6 + 1))
 else
 some y5)
partial_fixpoint
end
def yr (a0 : ae) (r : Int) : Prop := ACall Tryz.prog 131 [.agg a0.lit] [] (fun res h => res = .int .i64 r ∧ h = [])
inductive cZ : ae → Int → Int → (Int) → Prop
 | mk (Hb : ae → Option (Int)) (aa7 : ∀ a0 r, Hb a0 = some r → yr a0 r) (dZ : ae → Int → Int → Option (Int)) (qg : ∀ a0 y5 y6 o, dZ a0 y5 y6 = some o → cZ a0 y5 y6 o) (a0 : ae) (y5 : Int) (y6 : Int) (o : Int) (h : (
 (if y6 < (a0.ah.length : Int) then
 idx a0.ah y6 >>= fun qe =>
 Hb qe >>= fun oD =>
 dZ a0 (aT (y5 + oD)) (aT (y6 + 1))
 else
 some y5)
 ) = some o) : cZ a0 y5 y6 o
theorem pQ {motive : ae → Int → Int → (Int) → Prop} (step : ∀ (Hb : ae → Option (Int)) (aa7 : ∀ a0 r, Hb a0 = some r → yr a0 r) (dZ : ae → Int → Int → Option (Int)) (qg : ∀ a0 y5 y6 o, dZ a0 y5 y6 = some o → cZ a0 y5 y6 o) (a0 : ae) (y5 : Int) (y6 : Int) (o : Int) (h : (
 (if y6 < (a0.ah.length : Int) then
 idx a0.ah y6 >>= fun qe =>
 Hb qe >>= fun oD =>
 dZ a0 (aT (y5 + oD)) (aT (y6 + 1))
 else
 some y5)
 ) = some o) (ih : ∀ a0 y5 y6 o, dZ a0 y5 y6 = some o → motive a0 y5 y6 o), motive a0 y5 y6 o) : ∀ a0 y5 y6 o, cZ a0 y5 y6 o → motive a0 y5 y6 o :=
 fun a0 y5 y6 o h => cZ.rec (motive := fun a0 y5 y6 o _ => motive a0 y5 y6 o) step h
theorem tU : (∀ a0 r, gK a0 = some r → yr a0 r) ∧ (∀ a0 y5 y6 o, fD a0 y5 y6 = some o → cZ a0 y5 y6 o) := by
 refine gK.mutual_partial_correctness yr cZ ?_ ?_
 intro _ ank a0 r h
 refine gd Tryz.func131 ?_
 refine .d (.d ?_)
 obtain ⟨o2, uG, uH⟩ := bd h
 replace h := uG
 refine .cut (fun σ η => ∃ y1, y1 = o2 ∧ σ = [(3, .int .i64 y1)] ∧ η = []) ?_ ?_
 refine .d ⟨rfl, ⟨rfl, _, rfl, ?_⟩⟩
 have anl := ank _ _ _ _ h
 refine le (pQ (motive := fun p17 y5 y6 o15 => a0 = p17 → o2 = o15 → aG _ _ [(3, .int .i64 y5), (7, sl 4 ae.cells a0.ah), (8, .int .i64 (a0.ah.length : Int)), (9, .int .i64 y6)] []) ?_ a0 1 0 o2 anl rfl rfl) (tk [] ⟨.i, .l, .i, .i, ⟨⟩⟩ ⟨⟩)
 intro _ Vl _ _ p17 y5 y6 o15 h yq  Vn Vo
 subst Vn
 subst Vo
 refine aG.round (.d (.d (sD h (fun lT h => ?_) (fun lT h => ?_))))
 exact .d (.d (bk h fun qe uI h => ⟨aA uI, _, (ax uI).trans (ae.au qe), ⟨rfl, _, fun _ => [.int .i64 qe.ai, .int .i64 qe.aD, .str qe.aj, sl 4 ae.cells qe.ah], rfl, bX rfl, ⟨rfl, _, rfl, (bk h fun oD qf h => (aS (Vl _ _ qf) (lg (yq _ _ _ _ h rfl rfl) (tk [] ⟨.i, .l, .i, .i, ⟨⟩⟩ ⟨⟩))))⟩⟩⟩))
 exact ath
 exact asQ
 exact asU
theorem wJ {a0 : ae} {r : Int} (h : gK a0 = some r) : ACall Tryz.prog 131 [.agg a0.lit] [] (fun res h => res = .int .i64 r ∧ h = []) := tU.1 a0 r h
mutual
def gf (a0 : ae) : Option (Int) :=
 (
 eO a0 0 0
 : Option (Int)) >>= fun y1 =>
 some (aT (y1 + 1))
partial_fixpoint
def eO (a0 : ae) (y5 : Int) (y6 : Int) : Option (Int) :=
 (if y6 < (a0.ah.length : Int) then
 idx a0.ah y6 >>= fun qe =>
 gf qe >>= fun oD =>
 Vp y5 oD >>= fun wG =>
 eO a0 wG (aT (y6 + 1))
 else
 some y5)
partial_fixpoint
end
def yt (a0 : ae) (r : Int) : Prop := ACall Tryz.prog 132 [.agg a0.lit] [] (fun res h => res = .int .i64 r ∧ h = [])
inductive cG : ae → Int → Int → (Int) → Prop
 | mk (Hc : ae → Option (Int)) (aa8 : ∀ a0 r, Hc a0 = some r → yt a0 r) (dx : ae → Int → Int → Option (Int)) (pR : ∀ a0 y5 y6 o, dx a0 y5 y6 = some o → cG a0 y5 y6 o) (a0 : ae) (y5 : Int) (y6 : Int) (o : Int) (h : (
 (if y6 < (a0.ah.length : Int) then
 idx a0.ah y6 >>= fun qe =>
 Hc qe >>= fun oD =>
 Vp y5 oD >>= fun wG =>
 dx a0 wG (aT (y6 + 1))
 else
 some y5)
 ) = some o) : cG a0 y5 y6 o
theorem oF {motive : ae → Int → Int → (Int) → Prop} (step : ∀ (Hc : ae → Option (Int)) (aa8 : ∀ a0 r, Hc a0 = some r → yt a0 r) (dx : ae → Int → Int → Option (Int)) (pR : ∀ a0 y5 y6 o, dx a0 y5 y6 = some o → cG a0 y5 y6 o) (a0 : ae) (y5 : Int) (y6 : Int) (o : Int) (h : (
 (if y6 < (a0.ah.length : Int) then
 idx a0.ah y6 >>= fun qe =>
 Hc qe >>= fun oD =>
 Vp y5 oD >>= fun wG =>
 dx a0 wG (aT (y6 + 1))
 else
 some y5)
 ) = some o) (ih : ∀ a0 y5 y6 o, dx a0 y5 y6 = some o → motive a0 y5 y6 o), motive a0 y5 y6 o) : ∀ a0 y5 y6 o, cG a0 y5 y6 o → motive a0 y5 y6 o :=
 fun a0 y5 y6 o h => cG.rec (motive := fun a0 y5 y6 o _ => motive a0 y5 y6 o) step h
theorem sB : (∀ a0 r, gf a0 = some r → yt a0 r) ∧ (∀ a0 y5 y6 o, eO a0 y5 y6 = some o → cG a0 y5 y6 o) := by
 refine gf.mutual_partial_correctness yt cG ?_ ?_
 intro _ Vj a0 r h
 refine gd Tryz.func132 ?_
 refine .d (.d ?_)
 obtain ⟨o2, uG, uH⟩ := bd h
 replace h := uG
 refine .cut (fun σ η => ∃ y1, y1 = o2 ∧ σ = [(3, .int .i64 y1)] ∧ η = []) ?_ ?_
 refine .d ⟨rfl, ⟨rfl, _, rfl, ?_⟩⟩
 have Vk := Vj _ _ _ _ h
 refine le (oF (motive := fun p19 y5 y6 o17 => a0 = p19 → o2 = o17 → aG _ _ [(3, .int .i64 y5), (7, sl 4 ae.cells a0.ah), (8, .int .i64 (a0.ah.length : Int)), (9, .int .i64 y6)] []) ?_ a0 0 0 o2 Vk rfl rfl) (tk [] ⟨.i, .l, .i, .i, ⟨⟩⟩ ⟨⟩)
 intro _ Vl _ _ p19 y5 y6 o17 h yq  B5 Vm
 subst B5
 subst Vm
 refine aG.round (.d (.d (sD h (fun lT h => ?_) (fun lT h => ?_))))
 exact .d (.d (bk h fun qe uI h => ⟨aA uI, _, (ax uI).trans (ae.au qe), ⟨rfl, _, fun _ => [.int .i64 qe.ai, .int .i64 qe.aD, .str qe.aj, sl 4 ae.cells qe.ah], rfl, bX rfl, ⟨rfl, _, rfl, (bk h fun oD qf h => (aS (Vl _ _ qf) (bk h fun wG B6 h => (aS (anm B6) (lg (yq _ _ _ _ h rfl rfl) (tk [] ⟨.i, .l, .i, .i, ⟨⟩⟩ ⟨⟩))))))⟩⟩⟩))
 exact ath
 exact asQ
 exact asU
theorem uK {a0 : ae} {r : Int} (h : gf a0 = some r) : ACall Tryz.prog 132 [.agg a0.lit] [] (fun res h => res = .int .i64 r ∧ h = []) := sB.1 a0 r h
mutual
def iJ (a0 : ae) (a1 : Int) : Option (Int) :=
 (
 gu a0 (aT (a1 - 1)) 0
 : Option (Int)) >>= fun y1 =>
 some y1
partial_fixpoint
def gu (a0 : ae) (y5 : Int) (y6 : Int) : Option (Int) :=
 (if y6 < (a0.ah.length : Int) then
 (if y5 ≥ 0 then
 idx a0.ah y6 >>= fun Vq =>
 iJ Vq y5 >>= fun v14 =>
 gu a0 v14 (aT (y6 + 1))
 else
 some y5)
 else
 some y5)
partial_fixpoint
end
def yu (a0 : ae) (a1 : Int) (r : Int) : Prop := ACall Tryz.prog 145 [.agg a0.lit, .int .i64 a1] [] (fun res h => res = .int .i64 r ∧ h = [])
inductive dy : ae → Int → Int → (Int) → Prop
 | mk (Hd : ae → Int → Option (Int)) (aa9 : ∀ a0 a1 r, Hd a0 a1 = some r → yu a0 a1 r) (eP : ae → Int → Int → Option (Int)) (qY : ∀ a0 y5 y6 o, eP a0 y5 y6 = some o → dy a0 y5 y6 o) (a0 : ae) (y5 : Int) (y6 : Int) (o : Int) (h : (
 (if y6 < (a0.ah.length : Int) then
 (if y5 ≥ 0 then
 idx a0.ah y6 >>= fun Vq =>
 Hd Vq y5 >>= fun v14 =>
 eP a0 v14 (aT (y6 + 1))
 else
 some y5)
 else
 some y5)
 ) = some o) : dy a0 y5 y6 o
theorem qh {motive : ae → Int → Int → (Int) → Prop} (step : ∀ (Hd : ae → Int → Option (Int)) (aa9 : ∀ a0 a1 r, Hd a0 a1 = some r → yu a0 a1 r) (eP : ae → Int → Int → Option (Int)) (qY : ∀ a0 y5 y6 o, eP a0 y5 y6 = some o → dy a0 y5 y6 o) (a0 : ae) (y5 : Int) (y6 : Int) (o : Int) (h : (
 (if y6 < (a0.ah.length : Int) then
 (if y5 ≥ 0 then
 idx a0.ah y6 >>= fun Vq =>
 Hd Vq y5 >>= fun v14 =>
 eP a0 v14 (aT (y6 + 1))
 else
 some y5)
 else
 some y5)
 ) = some o) (ih : ∀ a0 y5 y6 o, eP a0 y5 y6 = some o → motive a0 y5 y6 o), motive a0 y5 y6 o) : ∀ a0 y5 y6 o, dy a0 y5 y6 o → motive a0 y5 y6 o :=
 fun a0 y5 y6 o h => dy.rec (motive := fun a0 y5 y6 o _ => motive a0 y5 y6 o) step h
theorem uL : (∀ a0 a1 r, iJ a0 a1 = some r → yu a0 a1 r) ∧ (∀ a0 y5 y6 o, gu a0 y5 y6 = some o → dy a0 y5 y6 o) := by
 refine iJ.mutual_partial_correctness yu dy ?_ ?_
 intro _ ann a0 a1 r h
 refine gd Tryz.func145 ?_
 refine .d (.d ?_)
 obtain ⟨o2, uG, uH⟩ := bd h
 replace h := uG
 refine .cut (fun σ η => ∃ y1, y1 = o2 ∧ σ = [(1, .int .i64 y1)] ∧ η = []) ?_ ?_
 refine .d ?_
 have ano := ann _ _ _ _ h
 refine le (qh (motive := fun p18 y5 y6 o16 => a0 = p18 → o2 = o16 → aG _ _ [(1, .int .i64 y5), (2, .aM 0 0 0 0), (5, .int .i64 y6)] [.row 0 4 1 29 (fun _ => a0.lit)]) ?_ a0 (aT (a1 - 1)) 0 o2 ano rfl rfl) (tk [0] ⟨.i, .p, .i, ⟨⟩⟩ ⟨(cF rfl), ⟨⟩⟩)
 intro _ Vl _ _ p18 y5 y6 o16 h yq  Vr Vs
 subst Vr
 subst Vs
 refine aG.round (.d (.d ⟨rfl, ⟨rfl, _, rfl, (sD h (fun lT h => ?_) (fun lT h => ?_))⟩⟩))
 refine .t (.t (sD h (fun qZ h => ?_) (fun qZ h => ?_)))
 exact .d ⟨rfl, ⟨rfl, _, rfl, (bk h fun Vq He h => ⟨aA He, _, (ax He).trans (ae.au Vq), (bk h fun v14 anp h => (aS (Vl _ _ _ anp) (lg (yq _ _ _ _ h rfl rfl) (tk [0] ⟨.i, .p, .i, ⟨⟩⟩ ⟨(cF rfl), ⟨⟩⟩))))⟩)⟩⟩
 exact ath
 exact .f (.f (.f (ct ⟨_, si h, rfl, rfl⟩ (tk [] ⟨.i, ⟨⟩⟩ ⟨⟩))))
 exact asQ
 exact asU
theorem yv {a0 : ae} {a1 : Int} {r : Int} (h : iJ a0 a1 = some r) : ACall Tryz.prog 145 [.agg a0.lit, .int .i64 a1] [] (fun res h => res = .int .i64 r ∧ h = []) := uL.1 a0 a1 r h
def jm (a0 : ae) : Option (Bool) :=
 gK a0 >>= fun v1 =>
 (if v1 ≤ 600 then
 gf a0 >>= fun v4 =>
 some (decide (v4 ≤ 30))
 else
 some false)
theorem uM {a0 : ae} {r : Bool} (h : jm a0 = some r) : ACall Tryz.prog 66 [.agg a0.lit] [] (fun res h => res = .bool r ∧ h = []) := by
 refine gd Tryz.func66 ?_
 unfold jm at h
 refine .d (.d ⟨rfl, _, rfl, (bk h fun v1 lx h => (aS (wJ lx) (sD h (fun ow h => ?_) (fun ow h => ?_))))⟩)
 exact ⟨rfl, _, rfl, (.t (bk h fun v4 tV h => (aS (uK tV) (.t (.t (eB h))))))⟩
 exact atl
def jV (a0 : ae) : Option (Bool) :=
 iJ a0 600 >>= fun v1 =>
 (if v1 ≥ 0 then
 fZ a0 >>= fun v4 =>
 some (decide (v4 ≤ 30))
 else
 some false)
theorem wK {a0 : ae} {r : Bool} (h : jV a0 = some r) : ACall Tryz.prog 74 [.agg a0.lit] [] (fun res h => res = .bool r ∧ h = []) := by
 refine gd Tryz.func74 ?_
 unfold jV at h
 refine .d (.d ⟨rfl, _, rfl, (bk h fun v1 lx h => (aS (yv lx) (sD h (fun ow h => ?_) (fun ow h => ?_))))⟩)
 exact ⟨rfl, _, rfl, (.t (bk h fun v4 tV h => (aS (uJ tV) (.t (.t (eB h))))))⟩
 exact atl
set_option maxRecDepth 100000
def dQ (a0 : List ae) (a1 : Bool) (NF : Bool) (yw : Int) : Option ((Unit) ⊕ Bool) :=
 (if yw < (aT ((a0.length : Int) - 1)) then
 idx a0 yw >>= fun mM =>
 (
 (if mM.ai = 25 then
 some true
 else
 some NF)
 : Option (Bool)) >>= fun zZ =>
 (if mM.ai = 24 then
 (if zZ = true then
 (if mM.ai = 25 then
 (if a1 = true then
 tW mM.aD 0 1 >>= fun uN =>
 (if uN = true then
 cc mM.aj >>= fun v168 =>
 (if v168 = true then
 (if (mM.ah.length : Int) > 0 then
 some (.inr false)
 else
 dQ a0 a1 zZ (aT (yw + 1)))
 else
 some (.inr false))
 else
 some (.inr false))
 else
 some (.inr false))
 else
 some (.inr false))
 else
 tW mM.aD 0 1 >>= fun aba =>
 (if aba = true then
 cc mM.aj >>= fun v159 =>
 (if v159 = true then
 (if (mM.ah.length : Int) > 0 then
 some (.inr false)
 else
 dQ a0 a1 zZ (aT (yw + 1)))
 else
 some (.inr false))
 else
 some (.inr false)))
 else
 (if mM.ai = 25 then
 (if a1 = true then
 tW mM.aD 0 1 >>= fun z6 =>
 (if z6 = true then
 cc mM.aj >>= fun abb =>
 (if abb = true then
 (if (mM.ah.length : Int) > 0 then
 some (.inr false)
 else
 dQ a0 a1 zZ (aT (yw + 1)))
 else
 some (.inr false))
 else
 some (.inr false))
 else
 some (.inr false))
 else
 some (.inr false)))
 else
 some (.inl ()))
partial_fixpoint
mutual
def aQ (a0 : ae) : Option (Bool) :=
 cW a0 >>= fun (v1, v2) =>
 (if v1 = true then
 (if v2 = true then
 ((
 (
 (if a0.ai = 1 then
 some (a0.ai == 1)
 else
 (if a0.ai = 2 then
 some (a0.ai == 2)
 else
 (if a0.ai = 3 then
 some (a0.ai == 3)
 else
 some (a0.ai == 4))))
 : Option (Bool)) >>= fun b9 =>
 (if b9 = true then
 some (.inr ((a0.ah.length : Int) == 0))
 else
 (if a0.ai = 5 then
 ((
 iK a0 0
 : Option ((Unit) ⊕ ((Unit) ⊕ Bool))) >>= fun Hf => match Hf with
 | .inr r => some r
 | .inl _ =>
 some (.inr true)
 )
 else
 (
 (if a0.ai = 8 then
 some (a0.ai == 8)
 else
 some (a0.ai == 9))
 : Option (Bool)) >>= fun b46 =>
 (if b46 = true then
 (if (a0.ah.length : Int) = 1 then
 idx a0.ah 0 >>= fun Hg =>
 aQ Hg >>= fun NG =>
 some (.inr NG)
 else
 some (.inr false))
 else
 (
 (if a0.ai = 7 then
 some (a0.ai == 7)
 else
 (if a0.ai = 10 then
 some (a0.ai == 10)
 else
 (if a0.ai = 11 then
 some (a0.ai == 11)
 else
 (if a0.ai = 12 then
 some (a0.ai == 12)
 else
 some (a0.ai == 13)))))
 : Option (Bool)) >>= fun b57 =>
 (if b57 = true then
 (if (a0.ah.length : Int) = 2 then
 dk a0.ah 0 >>= fun v67 =>
 some (.inr v67)
 else
 some (.inr false))
 else
 (if a0.ai = 14 then
 (if (a0.ah.length : Int) = 3 then
 dk a0.ah 0 >>= fun v71 =>
 some (.inr v71)
 else
 some (.inr false))
 else
 (
 (if a0.ai = 15 then
 some (a0.ai == 15)
 else
 some (a0.ai == 16))
 : Option (Bool)) >>= fun b73 =>
 (if b73 = true then
 (if (a0.ah.length : Int) = 2 then
 idx a0.ah 0 >>= fun x80 =>
 ia x80 >>= fun QC =>
 (if QC = true then
 dk a0.ah 0 >>= fun v85 =>
 some (.inr v85)
 else
 some (.inr false))
 else
 some (.inr false))
 else
 (if a0.ai = 17 then
 (if (a0.ah.length : Int) = 1 then
 idx a0.ah 0 >>= fun x89 =>
 (if x89.ai = 4 then
 idx a0.ah 0 >>= fun x92 =>
 aQ x92 >>= fun v94 =>
 some (.inr v94)
 else
 some (.inr false))
 else
 some (.inr false))
 else
 (
 (if a0.ai = 18 then
 some (a0.ai == 18)
 else
 (if a0.ai = 21 then
 some (a0.ai == 21)
 else
 some (a0.ai == 22)))
 : Option (Bool)) >>= fun b96 =>
 (if b96 = true then
 dk a0.ah 0 >>= fun abc =>
 some (.inr abc)
 else
 (
 (if a0.ai = 19 then
 some (a0.ai == 19)
 else
 some (a0.ai == 20))
 : Option (Bool)) >>= fun Hh =>
 (if Hh = true then
 (if (a0.ah.length : Int) ≥ 1 then
 dk a0.ah 0 >>= fun Hi =>
 some (.inr Hi)
 else
 some (.inr false))
 else
 (if a0.ai = 23 then
 kI a0.ah true >>= fun Hj =>
 some (.inr Hj)
 else
 some (.inl ())))))))))))
 : Option ((Unit) ⊕ Bool)) >>= fun o6 => match o6 with
 | .inr r => some r
 | .inl _ =>
 some false
 )
 else
 some false)
 else
 some false)
partial_fixpoint
def dk (a0 : List ae) (a1 : Int) : Option (Bool) :=
 ((
 iL a0 a1
 : Option ((Unit) ⊕ Bool)) >>= fun Hk => match Hk with
 | .inr r => some r
 | .inl _ =>
 some true
 )
partial_fixpoint
def kI (a0 : List ae) (a1 : Bool) : Option (Bool) :=
 ((
 dQ a0 a1 false 0
 : Option ((Unit) ⊕ Bool)) >>= fun Hl => match Hl with
 | .inr r => some r
 | .inl _ =>
 (if (aT ((a0.length : Int) - 1)) ≥ 0 then
 idx a0 (aT ((a0.length : Int) - 1)) >>= fun Vt =>
 a7 Vt >>= fun abd =>
 some abd
 else
 some false)
 )
partial_fixpoint
def a7 (a0 : ae) : Option (Bool) :=
 (if a0.ai = 48 then
 (if a0.aD = 0 then
 (if a0.aj = ([] : ar) then
 ((
 gR a0 0
 : Option ((Unit) ⊕ Bool)) >>= fun Hm => match Hm with
 | .inr r => some r
 | .inl _ =>
 some true
 )
 else
 some false)
 else
 some false)
 else
 some false)
partial_fixpoint
def dm (a0 : ae) : Option (Bool) :=
 cW a0 >>= fun (abe, abf) =>
 (if abe = true then
 (if abf = true then
 ((
 (
 (if a0.ai = 31 then
 some (a0.ai == 31)
 else
 (if a0.ai = 37 then
 some (a0.ai == 37)
 else
 (if a0.ai = 38 then
 some (a0.ai == 38)
 else
 (if a0.ai = 40 then
 some (a0.ai == 40)
 else
 some (a0.ai == 47)))))
 : Option (Bool)) >>= fun Hn =>
 (if Hn = true then
 some (.inr ((a0.ah.length : Int) == 0))
 else
 (
 (if a0.ai = 32 then
 some (a0.ai == 32)
 else
 (if a0.ai = 33 then
 some (a0.ai == 33)
 else
 some (a0.ai == 42)))
 : Option (Bool)) >>= fun Ho =>
 (if Ho = true then
 (if (a0.ah.length : Int) = 1 then
 idx a0.ah 0 >>= fun Vu =>
 aQ Vu >>= fun abg =>
 some (.inr abg)
 else
 some (.inr false))
 else
 (if a0.ai = 39 then
 (if (a0.ah.length : Int) ≤ 1 then
 dk a0.ah 0 >>= fun abh =>
 some (.inr abh)
 else
 some (.inr false))
 else
 (if a0.ai = 41 then
 (if (a0.ah.length : Int) = 1 then
 idx a0.ah 0 >>= fun Vv =>
 ia Vv >>= fun abi =>
 (if abi = true then
 idx a0.ah 0 >>= fun Vw =>
 aQ Vw >>= fun Hp =>
 some (.inr Hp)
 else
 some (.inr false))
 else
 some (.inr false))
 else
 (if a0.ai = 34 then
 tW (a0.ah.length : Int) 2 3 >>= fun abj =>
 (if abj = true then
 idx a0.ah 0 >>= fun Vx =>
 aQ Vx >>= fun abk =>
 (if abk = true then
 idx a0.ah 1 >>= fun Vy =>
 a7 Vy >>= fun yx =>
 (if yx = true then
 idx a0.ah (aT ((a0.ah.length : Int) - 1)) >>= fun Vz =>
 a7 Vz >>= fun abl =>
 some (.inr abl)
 else
 some (.inr false))
 else
 some (.inr false))
 else
 some (.inr false))
 else
 (if a0.ai = 35 then
 (if (a0.ah.length : Int) = 2 then
 idx a0.ah 0 >>= fun VA =>
 aQ VA >>= fun abm =>
 (if abm = true then
 idx a0.ah 1 >>= fun B7 =>
 a7 B7 >>= fun Hq =>
 some (.inr Hq)
 else
 some (.inr false))
 else
 some (.inr false))
 else
 (if a0.ai = 36 then
 tW (a0.ah.length : Int) 3 4 >>= fun abn =>
 (if abn = true then
 G4 a0.ah (aT ((a0.ah.length : Int) - 1)) >>= fun NH =>
 dk NH 0 >>= fun abo =>
 (if abo = true then
 idx a0.ah 1 >>= fun kZ =>
 (if kZ.ai = 4 then
 idx a0.ah (aT ((a0.ah.length : Int) - 2)) >>= fun VB =>
 (if VB.ai = 4 then
 idx a0.ah (aT ((a0.ah.length : Int) - 1)) >>= fun VC =>
 a7 VC >>= fun tZ =>
 some (.inr tZ)
 else
 some (.inr false))
 else
 some (.inr false))
 else
 some (.inr false))
 else
 some (.inr false))
 else
 (if a0.ai = 46 then
 tW (a0.ah.length : Int) 1 2 >>= fun Hr =>
 (if Hr = true then
 dk a0.ah 0 >>= fun abp =>
 (if abp = true then
 (if (a0.ah.length : Int) = 1 then
 some (.inr true)
 else
 idx a0.ah 0 >>= fun VD =>
 some (.inr (VD.ai == 4)))
 else
 some (.inr false))
 else
 some (.inr false))
 else
 (if a0.ai = 48 then
 a7 a0 >>= fun abq =>
 some (.inr abq)
 else
 (if a0.ai = 43 then
 tW (a0.ah.length : Int) 2 3 >>= fun abr =>
 (if abr = true then
 idx a0.ah 0 >>= fun VE =>
 a7 VE >>= fun abt =>
 (if abt = true then
 ((
 c8 a0 1
 : Option ((Unit) ⊕ ((Unit) ⊕ Bool))) >>= fun Hs => match Hs with
 | .inr r => some r
 | .inl _ =>
 some (.inr true)
 )
 else
 some (.inr false))
 else
 some (.inr false))
 else
 some (.inl ())))))))))))
 : Option ((Unit) ⊕ Bool)) >>= fun VF => match VF with
 | .inr r => some r
 | .inl _ =>
 some false
 )
 else
 some false)
 else
 some false)
partial_fixpoint
def iK (a0 : ae) (oy : Int) : Option ((Unit) ⊕ ((Unit) ⊕ Bool)) :=
 (if oy < (a0.ah.length : Int) then
 idx a0.ah oy >>= fun uO =>
 (if uO.ai = 6 then
 (if uO.aD = 0 then
 (if uO.aj = ([] : ar) then
 tW (uO.ah.length : Int) 1 2 >>= fun zU =>
 (if zU = true then
 dk uO.ah 0 >>= fun v38 =>
 (if v38 = true then
 iK a0 (aT (oy + 1))
 else
 some (.inr (.inr false)))
 else
 some (.inr (.inr false)))
 else
 some (.inr (.inr false)))
 else
 some (.inr (.inr false)))
 else
 some (.inr (.inr false)))
 else
 some (.inl ()))
partial_fixpoint
def iL (a0 : List ae) (iy : Int) : Option ((Unit) ⊕ Bool) :=
 (if iy < (a0.length : Int) then
 idx a0 iy >>= fun B8 =>
 aQ B8 >>= fun v131 =>
 (if v131 = true then
 iL a0 (aT (iy + 1))
 else
 some (.inr false))
 else
 some (.inl ()))
partial_fixpoint
def gR (a0 : ae) (iz : Int) : Option ((Unit) ⊕ Bool) :=
 (if iz < (a0.ah.length : Int) then
 idx a0.ah iz >>= fun B9 =>
 dm B9 >>= fun EK =>
 (if EK = true then
 gR a0 (aT (iz + 1))
 else
 some (.inr false))
 else
 some (.inl ()))
partial_fixpoint
def c8 (a0 : ae) (eZ : Int) : Option ((Unit) ⊕ ((Unit) ⊕ Bool)) :=
 (if eZ < (a0.ah.length : Int) then
 idx a0.ah eZ >>= fun gG =>
 cW gG >>= fun (uP, z7) =>
 (
 (if gG.ai = 44 then
 (if eZ = 1 then
 (if (gG.ah.length : Int) = 2 then
 idx gG.ah 0 >>= fun Ca =>
 (if Ca.ai = 4 then
 idx gG.ah 0 >>= fun Cb =>
 aQ Cb >>= fun EL =>
 (if EL = true then
 idx gG.ah 1 >>= fun Cc =>
 a7 Cc >>= fun EM =>
 some EM
 else
 some false)
 else
 some false)
 else
 some false)
 else
 some false)
 else
 some false)
 : Option (Bool)) >>= fun wL =>
 (
 (if gG.ai = 45 then
 (if eZ = (aT ((a0.ah.length : Int) - 1)) then
 (if (gG.ah.length : Int) = 1 then
 idx gG.ah 0 >>= fun Cd =>
 a7 Cd >>= fun EN =>
 some EN
 else
 some false)
 else
 some false)
 else
 some false)
 : Option (Bool)) >>= fun yy =>
 (if uP = true then
 (if z7 = true then
 (if wL = true then
 c8 a0 (aT (eZ + 1))
 else
 (if yy = true then
 c8 a0 (aT (eZ + 1))
 else
 some (.inr (.inr false))))
 else
 some (.inr (.inr false)))
 else
 some (.inr (.inr false)))
 else
 some (.inl ()))
partial_fixpoint
end
def xo (a0 : ae) (r : Bool) : Prop := ACall Tryz.prog 79 [.agg a0.lit] [] (fun res h => res = .bool r ∧ h = [])
def yz (a0 : List ae) (a1 : Int) (r : Bool) : Prop := ACall Tryz.prog 149 [sl 4 ae.cells a0, .int .i64 a1] [] (fun res h => res = .bool r ∧ h = [])
def QD (a0 : List ae) (a1 : Bool) (r : Bool) : Prop := ACall Tryz.prog 77 [sl 4 ae.cells a0, .bool a1] [] (fun res h => res = .bool r ∧ h = [])
def DF (a0 : ae) (r : Bool) : Prop := ACall Tryz.prog 80 [.agg a0.lit] [] (fun res h => res = .bool r ∧ h = [])
def DG (a0 : ae) (r : Bool) : Prop := ACall Tryz.prog 76 [.agg a0.lit] [] (fun res h => res = .bool r ∧ h = [])
inductive dz : ae → Int → ((Unit) ⊕ ((Unit) ⊕ Bool)) → Prop
 | mk (Ht : (List ae) → Int → Option (Bool)) (abu : ∀ a0 a1 r, Ht a0 a1 = some r → yz a0 a1 r) (eQ : ae → Int → Option ((Unit) ⊕ ((Unit) ⊕ Bool))) (re : ∀ a0 oy o, eQ a0 oy = some o → dz a0 oy o) (a0 : ae) (oy : Int) (o : (Unit) ⊕ ((Unit) ⊕ Bool)) (h : (
 (if oy < (a0.ah.length : Int) then
 idx a0.ah oy >>= fun uO =>
 (if uO.ai = 6 then
 (if uO.aD = 0 then
 (if uO.aj = ([] : ar) then
 tW (uO.ah.length : Int) 1 2 >>= fun zU =>
 (if zU = true then
 Ht uO.ah 0 >>= fun v38 =>
 (if v38 = true then
 eQ a0 (aT (oy + 1))
 else
 some (.inr (.inr false)))
 else
 some (.inr (.inr false)))
 else
 some (.inr (.inr false)))
 else
 some (.inr (.inr false)))
 else
 some (.inr (.inr false)))
 else
 some (.inl ()))
 ) = some o) : dz a0 oy o
theorem qi {motive : ae → Int → ((Unit) ⊕ ((Unit) ⊕ Bool)) → Prop} (step : ∀ (Ht : (List ae) → Int → Option (Bool)) (abu : ∀ a0 a1 r, Ht a0 a1 = some r → yz a0 a1 r) (eQ : ae → Int → Option ((Unit) ⊕ ((Unit) ⊕ Bool))) (re : ∀ a0 oy o, eQ a0 oy = some o → dz a0 oy o) (a0 : ae) (oy : Int) (o : (Unit) ⊕ ((Unit) ⊕ Bool)) (h : (
 (if oy < (a0.ah.length : Int) then
 idx a0.ah oy >>= fun uO =>
 (if uO.ai = 6 then
 (if uO.aD = 0 then
 (if uO.aj = ([] : ar) then
 tW (uO.ah.length : Int) 1 2 >>= fun zU =>
 (if zU = true then
 Ht uO.ah 0 >>= fun v38 =>
 (if v38 = true then
 eQ a0 (aT (oy + 1))
 else
 some (.inr (.inr false)))
 else
 some (.inr (.inr false)))
 else
 some (.inr (.inr false)))
 else
 some (.inr (.inr false)))
 else
 some (.inr (.inr false)))
 else
 some (.inl ()))
 ) = some o) (ih : ∀ a0 oy o, eQ a0 oy = some o → motive a0 oy o), motive a0 oy o) : ∀ a0 oy o, dz a0 oy o → motive a0 oy o :=
 fun a0 oy o h => dz.rec (motive := fun a0 oy o _ => motive a0 oy o) step h
inductive dA : (List ae) → Int → ((Unit) ⊕ Bool) → Prop
 | mk (Hu : ae → Option (Bool)) (VG : ∀ a0 r, Hu a0 = some r → xo a0 r) (eR : (List ae) → Int → Option ((Unit) ⊕ Bool)) (rf : ∀ a0 iy o, eR a0 iy = some o → dA a0 iy o) (a0 : List ae) (iy : Int) (o : (Unit) ⊕ Bool) (h : (
 (if iy < (a0.length : Int) then
 idx a0 iy >>= fun B8 =>
 Hu B8 >>= fun v131 =>
 (if v131 = true then
 eR a0 (aT (iy + 1))
 else
 some (.inr false))
 else
 some (.inl ()))
 ) = some o) : dA a0 iy o
theorem qj {motive : (List ae) → Int → ((Unit) ⊕ Bool) → Prop} (step : ∀ (Hu : ae → Option (Bool)) (VG : ∀ a0 r, Hu a0 = some r → xo a0 r) (eR : (List ae) → Int → Option ((Unit) ⊕ Bool)) (rf : ∀ a0 iy o, eR a0 iy = some o → dA a0 iy o) (a0 : List ae) (iy : Int) (o : (Unit) ⊕ Bool) (h : (
 (if iy < (a0.length : Int) then
 idx a0 iy >>= fun B8 =>
 Hu B8 >>= fun v131 =>
 (if v131 = true then
 eR a0 (aT (iy + 1))
 else
 some (.inr false))
 else
 some (.inl ()))
 ) = some o) (ih : ∀ a0 iy o, eR a0 iy = some o → motive a0 iy o), motive a0 iy o) : ∀ a0 iy o, dA a0 iy o → motive a0 iy o :=
 fun a0 iy o h => dA.rec (motive := fun a0 iy o _ => motive a0 iy o) step h
inductive da : ae → Int → ((Unit) ⊕ Bool) → Prop
 | mk (G76 : ae → Option (Bool)) (anq : ∀ a0 r, G76 a0 = some r → DG a0 r) (ed : ae → Int → Option ((Unit) ⊕ Bool)) (qk : ∀ a0 iz o, ed a0 iz = some o → da a0 iz o) (a0 : ae) (iz : Int) (o : (Unit) ⊕ Bool) (h : (
 (if iz < (a0.ah.length : Int) then
 idx a0.ah iz >>= fun B9 =>
 G76 B9 >>= fun EK =>
 (if EK = true then
 ed a0 (aT (iz + 1))
 else
 some (.inr false))
 else
 some (.inl ()))
 ) = some o) : da a0 iz o
theorem pS {motive : ae → Int → ((Unit) ⊕ Bool) → Prop} (step : ∀ (G76 : ae → Option (Bool)) (anq : ∀ a0 r, G76 a0 = some r → DG a0 r) (ed : ae → Int → Option ((Unit) ⊕ Bool)) (qk : ∀ a0 iz o, ed a0 iz = some o → da a0 iz o) (a0 : ae) (iz : Int) (o : (Unit) ⊕ Bool) (h : (
 (if iz < (a0.ah.length : Int) then
 idx a0.ah iz >>= fun B9 =>
 G76 B9 >>= fun EK =>
 (if EK = true then
 ed a0 (aT (iz + 1))
 else
 some (.inr false))
 else
 some (.inl ()))
 ) = some o) (ih : ∀ a0 iz o, ed a0 iz = some o → motive a0 iz o), motive a0 iz o) : ∀ a0 iz o, da a0 iz o → motive a0 iz o :=
 fun a0 iz o h => da.rec (motive := fun a0 iz o _ => motive a0 iz o) step h
inductive dB : ae → Int → ((Unit) ⊕ ((Unit) ⊕ Bool)) → Prop
 | mk (Hu : ae → Option (Bool)) (VG : ∀ a0 r, Hu a0 = some r → xo a0 r) (VH : ae → Option (Bool)) (anr : ∀ a0 r, VH a0 = some r → DF a0 r) (cP : ae → Int → Option ((Unit) ⊕ ((Unit) ⊕ Bool))) (rh : ∀ a0 eZ o, cP a0 eZ = some o → dB a0 eZ o) (a0 : ae) (eZ : Int) (o : (Unit) ⊕ ((Unit) ⊕ Bool)) (h : (
 (if eZ < (a0.ah.length : Int) then
 idx a0.ah eZ >>= fun gG =>
 cW gG >>= fun (uP, z7) =>
 (
 (if gG.ai = 44 then
 (if eZ = 1 then
 (if (gG.ah.length : Int) = 2 then
 idx gG.ah 0 >>= fun Ca =>
 (if Ca.ai = 4 then
 idx gG.ah 0 >>= fun Cb =>
 Hu Cb >>= fun EL =>
 (if EL = true then
 idx gG.ah 1 >>= fun Cc =>
 VH Cc >>= fun EM =>
 some EM
 else
 some false)
 else
 some false)
 else
 some false)
 else
 some false)
 else
 some false)
 : Option (Bool)) >>= fun wL =>
 (
 (if gG.ai = 45 then
 (if eZ = (aT ((a0.ah.length : Int) - 1)) then
 (if (gG.ah.length : Int) = 1 then
 idx gG.ah 0 >>= fun Cd =>
 VH Cd >>= fun EN =>
 some EN
 else
 some false)
 else
 some false)
 else
 some false)
 : Option (Bool)) >>= fun yy =>
 (if uP = true then
 (if z7 = true then
 (if wL = true then
 cP a0 (aT (eZ + 1))
 else
 (if yy = true then
 cP a0 (aT (eZ + 1))
 else
 some (.inr (.inr false))))
 else
 some (.inr (.inr false)))
 else
 some (.inr (.inr false)))
 else
 some (.inl ()))
 ) = some o) : dB a0 eZ o
theorem ql {motive : ae → Int → ((Unit) ⊕ ((Unit) ⊕ Bool)) → Prop} (step : ∀ (Hu : ae → Option (Bool)) (VG : ∀ a0 r, Hu a0 = some r → xo a0 r) (VH : ae → Option (Bool)) (anr : ∀ a0 r, VH a0 = some r → DF a0 r) (cP : ae → Int → Option ((Unit) ⊕ ((Unit) ⊕ Bool))) (rh : ∀ a0 eZ o, cP a0 eZ = some o → dB a0 eZ o) (a0 : ae) (eZ : Int) (o : (Unit) ⊕ ((Unit) ⊕ Bool)) (h : (
 (if eZ < (a0.ah.length : Int) then
 idx a0.ah eZ >>= fun gG =>
 cW gG >>= fun (uP, z7) =>
 (
 (if gG.ai = 44 then
 (if eZ = 1 then
 (if (gG.ah.length : Int) = 2 then
 idx gG.ah 0 >>= fun Ca =>
 (if Ca.ai = 4 then
 idx gG.ah 0 >>= fun Cb =>
 Hu Cb >>= fun EL =>
 (if EL = true then
 idx gG.ah 1 >>= fun Cc =>
 VH Cc >>= fun EM =>
 some EM
 else
 some false)
 else
 some false)
 else
 some false)
 else
 some false)
 else
 some false)
 : Option (Bool)) >>= fun wL =>
 (
 (if gG.ai = 45 then
 (if eZ = (aT ((a0.ah.length : Int) - 1)) then
 (if (gG.ah.length : Int) = 1 then
 idx gG.ah 0 >>= fun Cd =>
 VH Cd >>= fun EN =>
 some EN
 else
 some false)
 else
 some false)
 else
 some false)
 : Option (Bool)) >>= fun yy =>
 (if uP = true then
 (if z7 = true then
 (if wL = true then
 cP a0 (aT (eZ + 1))
 else
 (if yy = true then
 cP a0 (aT (eZ + 1))
 else
 some (.inr (.inr false))))
 else
 some (.inr (.inr false)))
 else
 some (.inr (.inr false)))
 else
 some (.inl ()))
 ) = some o) (ih : ∀ a0 eZ o, cP a0 eZ = some o → motive a0 eZ o), motive a0 eZ o) : ∀ a0 eZ o, dB a0 eZ o → motive a0 eZ o :=
 fun a0 eZ o h => dB.rec (motive := fun a0 eZ o _ => motive a0 eZ o) step h
theorem uQ : (∀ a0 r, aQ a0 = some r → xo a0 r) ∧ (∀ a0 a1 r, kI a0 a1 = some r → QD a0 a1 r) ∧ (∀ a0 r, a7 a0 = some r → DF a0 r) ∧ (∀ a0 iz o, gR a0 iz = some o → da a0 iz o) ∧ (∀ a0 r, dm a0 = some r → DG a0 r) ∧ (∀ a0 eZ o, c8 a0 eZ = some o → dB a0 eZ o) ∧ (∀ a0 a1 r, dk a0 a1 = some r → yz a0 a1 r) ∧ (∀ a0 iy o, iL a0 iy = some o → dA a0 iy o) ∧ (∀ a0 oy o, iK a0 oy = some o → dz a0 oy o) := by
 refine aQ.mutual_partial_correctness xo QD DF da DG dB yz dA dz ?_ ?_ ?_ ?_ ?_ ?_ ?_ ?_ ?_
 intro _ _ _ _ uR abv nx ans a0 r h
 refine gd Tryz.func79 ?_
 refine .d (.d ⟨rfl, _, rfl, ?_⟩)
 obtain ⟨⟨v1, v2⟩, NI, h⟩ := bd h
 refine aS (ly NI) (.d ⟨rfl, ⟨rfl, _, rfl, (.d (.d (l8 h (fun DH h => ?_) (fun DH h => ?_))))⟩⟩)
 exact .t (.t (.t (.d (eB h))))
 refine .f (.f (l8 h (fun BZ h => ?_) (fun BZ h => ?_)))
 exact atd
 obtain ⟨o6, ho7, tz⟩ := bd h
 replace h := ho7
 refine .cut (fun σ η => .inl () = o6 ∧ σ = [] ∧ η = []) ?_ ?_
 refine .d ⟨rfl, ⟨rfl, _, rfl, ?_⟩⟩
 obtain ⟨o10, VI, VJ⟩ := bd h
 replace h := VI
 refine .cut (fun σ η => ∃ b9, b9 = o10 ∧ σ = [(1, .aM 0 0 0 0), (5, .int .i64 (a0.ah.length : Int)), (23, .int .i64 a0.ai), (24, .bool b9)] ∧ η = [.row 0 4 1 29 (fun _ => a0.lit)]) ?_ ?_
 refine .d (sE h (fun wM h => ?_) (fun wM h => ?_))
 exact asW
 refine .d (sE h (fun ua h => ?_) (fun ua h => ?_))
 exact asW
 refine .d (sE h (fun lU h => ?_) (fun lU h => ?_))
 exact asW
 exact asW
 rintro _ _ ⟨b9, rfl, rfl, rfl⟩
 replace h := VJ
 refine sV h (fun pT h => ?_) (fun pT h => ?_)
 refine .d ?_
 exact asM
 refine .d (sE h (fun ri h => ?_) (fun ri h => ?_))
 obtain ⟨Hf, ant, EO⟩ := bd h
 replace h := ant
 refine .cut (fun σ η => .inl () = Hf ∧ σ = [] ∧ η = []) ?_ ?_
 refine .d ?_
 have anu := ans _ _ _ h
 refine le (qi (motive := fun p43 oy o41 => a0 = p43 → Hf = o41 → aG _ _ [(1, .aM 0 0 0 0), (5, .int .i64 (a0.ah.length : Int)), (6, .int .i64 oy)] [.row 0 4 1 29 (fun _ => a0.lit)]) ?_ a0 0 Hf anu rfl rfl) (tk [0] ⟨.p, .i, .i, ⟨⟩⟩ ⟨(cF rfl), ⟨⟩⟩)
 intro _ anv _ _ p43 oy o41 h anw  VK anx
 subst VK
 subst anx
 refine aG.round (.d (.d (sD h (fun VL h => ?_) (fun VL h => ?_))))
 refine .d (.d ⟨rfl, ⟨rfl, _, rfl, (bk h fun uO wN h => ⟨aA wN, _, (ax wN).trans (ae.au uO), ⟨rfl, _, fun _ => [.int .i64 uO.ai, .int .i64 uO.aD, .str uO.aj, sl 4 ae.cells uO.ah], rfl, bX rfl, (.d ⟨rfl, ⟨rfl, _, rfl, (sN h (fun Hv h => ?_) (fun Hv h => ?_))⟩⟩)⟩⟩)⟩⟩)
 refine .t (.t (.t (.t (.t (.t (.t (.t (.t (.t (.t (.t (.t (.t (.t ?_))))))))))))))
 refine .t (.t (.t (.t (.d ?_))))
 obtain rfl := si h
 replace h := EO
 exact asM
 refine ⟨rfl, (.f ⟨rfl, _, rfl, (.f (.f (sN h (fun VM h => ?_) (fun VM h => ?_))))⟩)⟩
 refine .t (.t (.t (.t (.t (.t (.t (.t (.t (.t (.t (.t (.t (.t (.t ?_))))))))))))))
 refine .d ?_
 obtain rfl := si h
 replace h := EO
 exact asM
 refine ⟨rfl, (.f ⟨rfl, _, rfl, (.f (.f (VN h (fun Hw h => ?_) (fun Hw h => ?_))))⟩)⟩
 refine .t (.t (.t (.t (.t (.t (.t (.t (.t (.t (.t (.d ?_)))))))))))
 obtain rfl := si h
 replace h := EO
 exact asM
 refine ⟨rfl, (.f ⟨rfl, _, rfl, (.f (.f (bk h fun zU Hx h => (aS (ny Hx) (.f (.f (l8 h (fun Hy h => ?_) (fun Hy h => ?_))))))))⟩)⟩
 refine .t (.t (.t (.t (.t (.d ?_)))))
 obtain rfl := si h
 replace h := EO
 exact asM
 refine ⟨rfl, (.f ⟨rfl, _, rfl, (.f (bk h fun v38 anz h => (aS (anv _ _ _ anz) (.f (.f (l8 h (fun anA h => ?_) (fun anA h => ?_)))))))⟩)⟩
 refine .d ?_
 obtain rfl := si h
 replace h := EO
 exact asM
 exact lg (anw _ _ _ h rfl rfl) (tk [0] ⟨.p, .i, .i, ⟨⟩⟩ ⟨(cF rfl), ⟨⟩⟩)
 exact asZ
 rintro _ _ ⟨rfl, rfl, rfl⟩
 replace h := EO
 refine .d ?_
 exact asM
 obtain ⟨o47, anB, anC⟩ := bd h
 replace h := anB
 refine .cut (fun σ η => ∃ b46, b46 = o47 ∧ σ = [(1, .aM 0 0 0 0), (5, .int .i64 (a0.ah.length : Int)), (23, .int .i64 a0.ai), (69, .bool b46)] ∧ η = [.row 0 4 1 29 (fun _ => a0.lit)]) ?_ ?_
 refine .d (sE h (fun anD h => ?_) (fun anD h => ?_))
 exact asW
 exact asW
 rintro _ _ ⟨b46, rfl, rfl, rfl⟩
 replace h := anC
 refine sV h (fun Hz h => ?_) (fun Hz h => ?_)
 refine .d (sE h (fun anE h => ?_) (fun anE h => ?_))
 refine ⟨rfl, (.t ⟨rfl, _, rfl, (.t (bk h fun Hg HA h => ⟨aA HA, _, (ax HA).trans (ae.au Hg), (.t (.t (bk h fun NG VO h => (aS (uR _ _ VO) (.t ?_)))))⟩))⟩)⟩
 exact asM
 refine .f (.f (.f (.f (.f ?_))))
 exact asM
 obtain ⟨o58, anF, anG⟩ := bd h
 replace h := anF
 refine .cut (fun σ η => ∃ b57, b57 = o58 ∧ σ = [(1, .aM 0 0 0 0), (5, .int .i64 (a0.ah.length : Int)), (23, .int .i64 a0.ai), (81, .bool b57)] ∧ η = [.row 0 4 1 29 (fun _ => a0.lit)]) ?_ ?_
 refine .d (sE h (fun HD h => ?_) (fun HD h => ?_))
 exact asW
 refine .d (sE h (fun HG h => ?_) (fun HG h => ?_))
 exact asW
 refine .d (sE h (fun anH h => ?_) (fun anH h => ?_))
 exact asW
 refine .d (sE h (fun anI h => ?_) (fun anI h => ?_))
 exact asW
 exact asW
 rintro _ _ ⟨b57, rfl, rfl, rfl⟩
 replace h := anG
 refine sV h (fun HH h => ?_) (fun HH h => ?_)
 refine .d (sE h (fun VP h => ?_) (fun VP h => ?_))
 refine ⟨rfl, (.t ⟨rfl, _, rfl, (.t (bk h fun v67 VQ h => (aS (nx _ _ _ VQ) (.t ?_))))⟩)⟩
 exact asM
 refine .f (.f (.f ?_))
 exact asM
 refine .d (sE h (fun VR h => ?_) (fun VR h => ?_))
 refine .d (sE h (fun VS h => ?_) (fun VS h => ?_))
 refine ⟨rfl, (.t ⟨rfl, _, rfl, (.t (bk h fun v71 VT h => (aS (nx _ _ _ VT) (.t ?_))))⟩)⟩
 exact asM
 refine .f (.f (.f ?_))
 exact asM
 obtain ⟨o74, anJ, anK⟩ := bd h
 replace h := anJ
 refine .cut (fun σ η => ∃ b73, b73 = o74 ∧ σ = [(1, .aM 0 0 0 0), (5, .int .i64 (a0.ah.length : Int)), (23, .int .i64 a0.ai), (103, .bool b73)] ∧ η = [.row 0 4 1 29 (fun _ => a0.lit)]) ?_ ?_
 refine .d (sE h (fun VU h => ?_) (fun VU h => ?_))
 exact asW
 exact asW
 rintro _ _ ⟨b73, rfl, rfl, rfl⟩
 replace h := anK
 refine sV h (fun anL h => ?_) (fun anL h => ?_)
 refine .d (sE h (fun VV h => ?_) (fun VV h => ?_))
 refine ⟨rfl, (.t ⟨rfl, _, rfl, (.t (bk h fun x80 abw h => ⟨aA abw, _, (ax abw).trans (ae.au x80), (.t (.t (bk h fun QC HI h => (aS (oG HI) (.t (sV h (fun VW h => ?_) (fun VW h => ?_)))))))⟩))⟩)⟩
 refine ⟨rfl, (.t ⟨rfl, _, rfl, (.t (bk h fun v85 VX h => (aS (nx _ _ _ VX) (.t ?_))))⟩)⟩
 exact asM
 refine .f (.f (.f ?_))
 exact asM
 refine .f (.f (.f (.f (.f (.f (.f (.f (.f ?_))))))))
 exact asM
 refine .d (sE h (fun VY h => ?_) (fun VY h => ?_))
 refine .d (sE h (fun VZ h => ?_) (fun VZ h => ?_))
 refine ⟨rfl, (.t ⟨rfl, _, rfl, (.t (bk h fun x89 abx h => ⟨aA abx, _, (ax abx).trans (ae.au x89), (.t (.t (.t (.t (sE h (fun anM h => ?_) (fun anM h => ?_))))))⟩))⟩)⟩
 refine ⟨rfl, (.t ⟨rfl, _, rfl, (.t (bk h fun x92 aby h => ⟨aA aby, _, (ax aby).trans (ae.au x92), (.t (.t (bk h fun v94 anN h => (aS (uR _ _ anN) (.t ?_)))))⟩))⟩)⟩
 exact asM
 refine .f (.f (.f (.f (.f ?_))))
 exact asM
 refine .f (.f (.f (.f (.f (.f (.f (.f (.f (.f (.f (.f ?_)))))))))))
 exact asM
 obtain ⟨o97, anO, anP⟩ := bd h
 replace h := anO
 refine .cut (fun σ η => ∃ b96, b96 = o97 ∧ σ = [(1, .aM 0 0 0 0), (5, .int .i64 (a0.ah.length : Int)), (23, .int .i64 a0.ai), (139, .bool b96)] ∧ η = [.row 0 4 1 29 (fun _ => a0.lit)]) ?_ ?_
 refine .d (sE h (fun abz h => ?_) (fun abz h => ?_))
 exact asW
 refine .d (sE h (fun HJ h => ?_) (fun HJ h => ?_))
 exact asW
 exact asW
 rintro _ _ ⟨b96, rfl, rfl, rfl⟩
 replace h := anP
 refine sV h (fun HK h => ?_) (fun HK h => ?_)
 refine .d ⟨rfl, ⟨rfl, _, rfl, (bk h fun abc abA h => (aS (nx _ _ _ abA) ?_))⟩⟩
 exact asM
 obtain ⟨anQ, abB, abC⟩ := bd h
 replace h := abB
 refine .cut (fun σ η => ∃ Hh, Hh = anQ ∧ σ = [(1, .aM 0 0 0 0), (5, .int .i64 (a0.ah.length : Int)), (23, .int .i64 a0.ai), (146, .bool Hh)] ∧ η = [.row 0 4 1 29 (fun _ => a0.lit)]) ?_ ?_
 refine .d (sE h (fun z8 h => ?_) (fun z8 h => ?_))
 exact asW
 exact asW
 rintro _ _ ⟨Hh, rfl, rfl, rfl⟩
 replace h := abC
 refine sV h (fun abD h => ?_) (fun abD h => ?_)
 refine .d (sD h (fun abE h => ?_) (fun abE h => ?_))
 refine ⟨rfl, (.t ⟨rfl, _, rfl, (.t (bk h fun Hi HL h => (aS (nx _ _ _ HL) (.t ?_))))⟩)⟩
 exact asM
 refine .f (.f (.f ?_))
 exact asM
 refine .d (sE h (fun HM h => ?_) (fun HM h => ?_))
 refine .d ⟨rfl, ⟨rfl, _, rfl, (bk h fun Hj HN h => (aS (abv _ _ _ HN) ?_))⟩⟩
 exact asM
 exact asZ
 rintro _ _ ⟨rfl, rfl, rfl⟩
 replace h := tz
 exact atd
 intro _ tA a0 a1 r h
 refine gd Tryz.func77 ?_
 refine .d (.d (.d ?_))
 obtain ⟨Hl, abF, ma⟩ := bd h
 replace h := abF
 refine .cut (fun σ η => .inl () = Hl ∧ σ = [(0, sl 4 ae.cells a0), (6, .int .i64 (aT ((a0.length : Int) - 1)))] ∧ η = []) ?_ ?_
 refine .d ?_
 refine le (dQ.partial_correctness a0 a1 (motive := fun NF yw abG => Hl = abG → aG _ _ [(0, sl 4 ae.cells a0), (1, .bool a1), (5, .bool NF), (6, .int .i64 (aT ((a0.length : Int) - 1))), (7, .int .i64 yw)] []) ?_ false 0 Hl h rfl) (tk [] ⟨.l, .b, .b, .i, .i, ⟨⟩⟩ ⟨⟩)
 intro aqK HO NF yw abG h abH
 subst abH
 refine aG.round (.d (.d (sD h (fun Aa h => ?_) (fun Aa h => ?_))))
 refine .d (.d (bk h fun mM QE h => ⟨aA QE, _, (ax QE).trans (ae.au mM), ⟨rfl, _, fun _ => [.int .i64 mM.ai, .int .i64 mM.aD, .str mM.aj, sl 4 ae.cells mM.ah], rfl, bX rfl, ?_⟩⟩))
 obtain ⟨anR, abI, abJ⟩ := bd h
 replace h := abI
 refine .cut (fun σ η => ∃ zZ, zZ = anR ∧ σ = [(0, sl 4 ae.cells a0), (1, .bool a1), (5, .bool zZ), (6, .int .i64 (aT ((a0.length : Int) - 1))), (7, .int .i64 yw), (8, .aM 0 0 0 0)] ∧ η = [.row 0 4 1 29 (fun _ => mM.lit)]) ?_ ?_
 refine .d ⟨rfl, ⟨rfl, _, rfl, (sE h (fun HP h => ?_) (fun HP h => ?_))⟩⟩
 exact ct ⟨_, si h, rfl, rfl⟩ (tk [0] ⟨.l, .b, .b, .i, .i, .p, ⟨⟩⟩ ⟨(cF rfl), ⟨⟩⟩)
 exact ct ⟨_, si h, rfl, rfl⟩ (tk [0] ⟨.l, .b, .b, .i, .i, .p, ⟨⟩⟩ ⟨(cF rfl), ⟨⟩⟩)
 rintro _ _ ⟨zZ, rfl, rfl, rfl⟩
 replace h := abJ
 refine .d ⟨rfl, ⟨rfl, _, rfl, (sE h (fun Ab h => ?_) (fun Ab h => ?_))⟩⟩
 refine .t (.t (l8 h (fun abK h => ?_) (fun abK h => ?_)))
 refine .t (.t (.t (.t (.t (.f ⟨rfl, (.f ⟨rfl, _, rfl, (.f (bk h fun aba abL h => (aS (ny abL) (.f (.f (l8 h (fun abM h => ?_) (fun abM h => ?_)))))))⟩)⟩)))))
 refine .t (.t (.t (.t (.t (.t (.t (.t (.t (.t (.d ?_))))))))))
 exact asP
 refine ⟨rfl, (.f ⟨rfl, _, rfl, (.f (bk h fun v159 HQ h => (aS (dP HQ) (.f (.f (l8 h (fun abN h => ?_) (fun abN h => ?_)))))))⟩)⟩
 refine .t (.t (.t (.t (.t (.d ?_)))))
 exact asP
 refine ⟨rfl, (.f ⟨rfl, _, rfl, (.f (.f (.f (sD h (fun Ac h => ?_) (fun Ac h => ?_)))))⟩)⟩
 refine .d ?_
 exact asP
 exact atn
 refine ⟨rfl, (.f ⟨rfl, _, rfl, (.f (.f (sE h (fun HR h => ?_) (fun HR h => ?_))))⟩)⟩
 refine .f (.t (.f (l8 h (fun HT h => ?_) (fun HT h => ?_))))
 refine .t (.t (.t (.t (.t (.t (.t (.t (.t (.t (.t (.t (.t (.t (.t ?_))))))))))))))
 refine .d ?_
 exact asP
 refine ⟨rfl, (.f ⟨rfl, _, rfl, (.f (bk h fun uN Ad h => (aS (ny Ad) (.f (.f (l8 h (fun abO h => ?_) (fun abO h => ?_)))))))⟩)⟩
 refine .t (.t (.t (.t (.t (.t (.t (.t (.t (.t (.d ?_))))))))))
 exact asP
 refine ⟨rfl, (.f ⟨rfl, _, rfl, (.f (bk h fun v168 Ae h => (aS (dP Ae) (.f (.f (l8 h (fun abP h => ?_) (fun abP h => ?_)))))))⟩)⟩
 refine .t (.t (.t (.t (.t (.d ?_)))))
 exact asP
 refine ⟨rfl, (.f ⟨rfl, _, rfl, (.f (.f (.f (sD h (fun abQ h => ?_) (fun abQ h => ?_)))))⟩)⟩
 refine .d ?_
 exact asP
 exact atn
 refine .f (.f (.f (.t (.t (.t (.t (.t (.t (.t (.t (.t (.t (.t (.t ?_))))))))))))))
 refine .t (.t (.t (.t (.d ?_))))
 exact asP
 refine .f (.f (.f ⟨rfl, (.f ⟨rfl, _, rfl, (.f (.f (sE h (fun HU h => ?_) (fun HU h => ?_))))⟩)⟩))
 refine .f (.t (.f (l8 h (fun abR h => ?_) (fun abR h => ?_))))
 refine .t (.t (.t (.t (.t (.t (.t (.t (.t (.t (.t (.t (.t (.t (.t ?_))))))))))))))
 refine .d ?_
 exact asP
 refine ⟨rfl, (.f ⟨rfl, _, rfl, (.f (bk h fun z6 HV h => (aS (ny HV) (.f (.f (l8 h (fun abS h => ?_) (fun abS h => ?_)))))))⟩)⟩
 refine .t (.t (.t (.t (.t (.t (.t (.t (.t (.t (.d ?_))))))))))
 exact asP
 refine ⟨rfl, (.f ⟨rfl, _, rfl, (.f (bk h fun abb abT h => (aS (dP abT) (.f (.f (l8 h (fun abU h => ?_) (fun abU h => ?_)))))))⟩)⟩
 refine .t (.t (.t (.t (.t (.d ?_)))))
 exact asP
 refine ⟨rfl, (.f ⟨rfl, _, rfl, (.f (.f (.f (sD h (fun Af h => ?_) (fun Af h => ?_)))))⟩)⟩
 refine .d ?_
 exact asP
 exact atn
 refine .f (.f (.f (.t (.t (.t (.t (.t (.t (.t (.t (.t (.t (.t (.t ?_))))))))))))))
 refine .t (.t (.t (.t (.d ?_))))
 exact asP
 exact ct ⟨si h, rfl, rfl⟩ (tk [] ⟨.l, .i, ⟨⟩⟩ ⟨⟩)
 rintro _ _ ⟨rfl, rfl, rfl⟩
 replace h := ma
 refine .d (sD h (fun abV h => ?_) (fun abV h => ?_))
 exact .t (.t (bk h fun Vt QF h => ⟨aA QF, _, (ax QF).trans (ae.au Vt), (.t (.t (bk h fun abd abW h => (aS (tA _ _ abW) (.t (eB h))))))⟩))
 exact .f (.f (.f (.f (.f (eB h)))))
 intro _ abX a0 r h
 refine gd Tryz.func80 ?_
 refine .d (.d (.d ⟨rfl, ⟨rfl, _, rfl, (sN h (fun abY h => ?_) (fun abY h => ?_))⟩⟩))
 exact .t (.t (.t (.t (.t (.t (.t (.t (.d (eB h)))))))))
 refine ⟨rfl, (.f ⟨rfl, _, rfl, (.f (.f (sN h (fun abZ h => ?_) (fun abZ h => ?_))))⟩)⟩
 exact .t (.t (.t (.t (.d (eB h)))))
 refine ⟨rfl, (.f ⟨rfl, _, rfl, (.f (.f (VN h (fun ab0 h => ?_) (fun ab0 h => ?_))))⟩)⟩
 exact atd
 obtain ⟨Hm, ab1, QG⟩ := bd h
 replace h := ab1
 refine .cut (fun σ η => .inl () = Hm ∧ σ = [] ∧ η = []) ?_ ?_
 refine .d ?_
 have ab2 := abX _ _ _ h
 refine le (pS (motive := fun ab3 iz ab4 => a0 = ab3 → Hm = ab4 → aG _ _ [(1, .aM 0 0 0 0), (3, .int .i64 iz)] [.row 0 4 1 29 (fun _ => a0.lit)]) ?_ a0 0 Hm ab2 rfl rfl) (tk [0] ⟨.p, .i, ⟨⟩⟩ ⟨(cF rfl), ⟨⟩⟩)
 intro _ ab5 _ _ ab3 iz ab4 h ab6  NJ ab7
 subst NJ
 subst ab7
 refine aG.round (.d (.d ⟨rfl, ⟨rfl, _, rfl, (sD h (fun ab8 h => ?_) (fun ab8 h => ?_))⟩⟩))
 refine .d (.d ⟨rfl, ⟨rfl, _, rfl, (bk h fun B9 xp h => ⟨aA xp, _, (ax xp).trans (ae.au B9), (bk h fun EK ab9 h => (aS (ab5 _ _ ab9) (l8 h (fun aca h => ?_) (fun aca h => ?_))))⟩)⟩⟩)
 refine .d ?_
 obtain rfl := si h
 replace h := QG
 exact eB h
 exact lg (ab6 _ _ _ h rfl rfl) (tk [0] ⟨.p, .i, ⟨⟩⟩ ⟨(cF rfl), ⟨⟩⟩)
 exact asZ
 rintro _ _ ⟨rfl, rfl, rfl⟩
 replace h := QG
 exact atd
 intro F0 F1 lu lv a0 iz o h
 exact .mk F1 lv F0 lu a0 iz o h
 intro _ _ _ _ uR tA acb nx a0 r h
 refine gd Tryz.func76 ?_
 refine .d (.d ⟨rfl, _, rfl, ?_⟩)
 obtain ⟨⟨abe, abf⟩, acd, h⟩ := bd h
 refine aS (ly acd) (.d ⟨rfl, ⟨rfl, _, rfl, (.d (.d (l8 h (fun HW h => ?_) (fun HW h => ?_))))⟩⟩)
 exact .t (.t (.t (.d (eB h))))
 refine .f (.f (l8 h (fun HZ h => ?_) (fun HZ h => ?_)))
 exact atd
 obtain ⟨VF, ace, eH⟩ := bd h
 replace h := ace
 refine .cut (fun σ η => .inl () = VF ∧ σ = [] ∧ η = []) ?_ ?_
 refine .d ⟨rfl, ⟨rfl, _, rfl, ?_⟩⟩
 obtain ⟨anS, acf, acg⟩ := bd h
 replace h := acf
 refine .cut (fun σ η => ∃ Hn, Hn = anS ∧ σ = [(1, .aM 0 0 0 0), (5, .int .i64 (a0.ah.length : Int)), (27, .int .i64 a0.ai), (28, .bool Hn)] ∧ η = [.row 0 4 1 29 (fun _ => a0.lit)]) ?_ ?_
 refine .d (sE h (fun ach h => ?_) (fun ach h => ?_))
 exact asW
 refine .d (sE h (fun aci h => ?_) (fun aci h => ?_))
 exact asW
 refine .d (sE h (fun H0 h => ?_) (fun H0 h => ?_))
 exact asW
 refine .d (sE h (fun H2 h => ?_) (fun H2 h => ?_))
 exact asW
 exact asW
 rintro _ _ ⟨Hn, rfl, rfl, rfl⟩
 replace h := acg
 refine sV h (fun acj h => ?_) (fun acj h => ?_)
 refine .d ?_
 exact asL
 obtain ⟨anT, ack, acm⟩ := bd h
 replace h := ack
 refine .cut (fun σ η => ∃ Ho, Ho = anT ∧ σ = [(1, .aM 0 0 0 0), (5, .int .i64 (a0.ah.length : Int)), (27, .int .i64 a0.ai), (36, .bool Ho)] ∧ η = [.row 0 4 1 29 (fun _ => a0.lit)]) ?_ ?_
 refine .d (sE h (fun acn h => ?_) (fun acn h => ?_))
 exact asW
 refine .d (sE h (fun H3 h => ?_) (fun H3 h => ?_))
 exact asW
 exact asW
 rintro _ _ ⟨Ho, rfl, rfl, rfl⟩
 replace h := acm
 refine sV h (fun H4 h => ?_) (fun H4 h => ?_)
 refine .d (sE h (fun aco h => ?_) (fun aco h => ?_))
 refine ⟨rfl, (.t ⟨rfl, _, rfl, (.t (bk h fun Vu QH h => ⟨aA QH, _, (ax QH).trans (ae.au Vu), (.t (.t (bk h fun abg acp h => (aS (uR _ _ acp) (.t ?_)))))⟩))⟩)⟩
 exact asL
 refine .f (.f (.f (.f (.f ?_))))
 exact asL
 refine .d (sE h (fun acq h => ?_) (fun acq h => ?_))
 refine .d (sD h (fun acr h => ?_) (fun acr h => ?_))
 refine ⟨rfl, (.t ⟨rfl, _, rfl, (.t (bk h fun abh acs h => (aS (nx _ _ _ acs) (.t ?_))))⟩)⟩
 exact asL
 refine .f (.f (.f ?_))
 exact asL
 refine .d (sE h (fun H5 h => ?_) (fun H5 h => ?_))
 refine .d (sE h (fun H6 h => ?_) (fun H6 h => ?_))
 refine ⟨rfl, (.t ⟨rfl, _, rfl, (.t (bk h fun Vv QI h => ⟨aA QI, _, (ax QI).trans (ae.au Vv), (.t (.t (bk h fun abi acu h => (aS (oG acu) (.t (sV h (fun acv h => ?_) (fun acv h => ?_)))))))⟩))⟩)⟩
 refine ⟨rfl, (.t ⟨rfl, _, rfl, (.t (bk h fun Vw QJ h => ⟨aA QJ, _, (ax QJ).trans (ae.au Vw), (.t (.t (bk h fun Hp H7 h => (aS (uR _ _ H7) (.t ?_)))))⟩))⟩)⟩
 exact asL
 refine .f (.f (.f (.f (.f ?_))))
 exact asL
 refine .f (.f (.f (.f (.f (.f (.f (.f (.f (.f (.f ?_))))))))))
 exact asL
 refine .d (sE h (fun H8 h => ?_) (fun H8 h => ?_))
 refine .d (bk h fun abj acw h => (aS (ny acw) (sV h (fun acx h => ?_) (fun acx h => ?_))))
 refine ⟨rfl, (.t ⟨rfl, _, rfl, (.t (bk h fun Vx QK h => ⟨aA QK, _, (ax QK).trans (ae.au Vx), (.t (.t (bk h fun abk acy h => (aS (uR _ _ acy) (.t (sV h (fun acz h => ?_) (fun acz h => ?_)))))))⟩))⟩)⟩
 refine ⟨rfl, (.t ⟨rfl, _, rfl, (.t (bk h fun Vy QL h => ⟨aA QL, _, (ax QL).trans (ae.au Vy), (.t (.t (bk h fun yx H9 h => (aS (tA _ _ H9) (.t (sV h (fun acA h => ?_) (fun acA h => ?_)))))))⟩))⟩)⟩
 refine ⟨rfl, (.t ⟨rfl, _, rfl, (.t (.t (.t (bk h fun Vz QM h => ⟨aA QM, _, (ax QM).trans (ae.au Vz), (.t (.t (bk h fun abl acB h => (aS (tA _ _ acB) (.t ?_)))))⟩))))⟩)⟩
 exact asL
 refine .f (.f (.f (.f (.f (.f (.f ?_))))))
 exact asL
 refine .f (.f (.f (.f (.f (.f (.f (.f (.f (.f (.f (.f (.f ?_))))))))))))
 exact asL
 refine .f (.f (.f (.f (.f (.f (.f (.f (.f (.f (.f (.f (.f (.f (.f ?_))))))))))))))
 refine .f (.f (.f (.f ?_)))
 exact asL
 refine .d (sE h (fun acC h => ?_) (fun acC h => ?_))
 refine .d (sE h (fun acD h => ?_) (fun acD h => ?_))
 refine ⟨rfl, (.t ⟨rfl, _, rfl, (.t (bk h fun VA QN h => ⟨aA QN, _, (ax QN).trans (ae.au VA), (.t (.t (bk h fun abm acE h => (aS (uR _ _ acE) (.t (sV h (fun acF h => ?_) (fun acF h => ?_)))))))⟩))⟩)⟩
 refine ⟨rfl, (.t ⟨rfl, _, rfl, (.t (bk h fun B7 Ag h => ⟨aA Ag, _, (ax Ag).trans (ae.au B7), (.t (.t (bk h fun Hq Ia h => (aS (tA _ _ Ia) (.t ?_)))))⟩))⟩)⟩
 exact asL
 refine .f (.f (.f (.f (.f ?_))))
 exact asL
 refine .f (.f (.f (.f (.f (.f (.f (.f (.f (.f (.f ?_))))))))))
 exact asL
 refine .d (sE h (fun acG h => ?_) (fun acG h => ?_))
 refine .d (bk h fun abn acH h => (aS (ny acH) (sV h (fun acI h => ?_) (fun acI h => ?_))))
 refine ⟨rfl, (.t ⟨rfl, _, rfl, (.t (.t (.t (bk h fun NH xq h => ⟨trivial, yA xq, NH.length, row ae.cells NH, uz xq, yB xq, (.t (bk h fun abo acJ h => (aS (nx _ _ _ acJ) (.t (sV h (fun Ah h => ?_) (fun Ah h => ?_))))))⟩))))⟩)⟩
 refine ⟨rfl, (.t ⟨rfl, _, rfl, (.t (bk h fun kZ rj h => ⟨aA rj, _, (ax rj).trans (ae.au kZ), (.t (.t (.t (.t (sE h (fun acK h => ?_) (fun acK h => ?_))))))⟩))⟩)⟩
 refine ⟨rfl, (.t ⟨rfl, _, rfl, (.t (.t (.t (bk h fun VB QO h => ⟨aA QO, _, (ax QO).trans (ae.au VB), (.t (.t (.t (.t (sE h (fun acL h => ?_) (fun acL h => ?_))))))⟩))))⟩)⟩
 refine ⟨rfl, (.t ⟨rfl, _, rfl, (.t (.t (.t (bk h fun VC QP h => ⟨aA QP, _, (ax QP).trans (ae.au VC), (.t (.t (bk h fun tZ Ib h => (aS (tA _ _ Ib) (.t ?_)))))⟩))))⟩)⟩
 exact asL
 refine .f (.f (.f (.f (.f (.f (.f ?_))))))
 exact asL
 refine .f (.f (.f (.f (.f (.f (.f (.f (.f (.f (.f (.f (.f (.f (.f ?_))))))))))))))
 refine .f ?_
 exact asL
 refine .f (.f (.f (.f (.f (.f (.f (.f (.f (.f (.f (.f (.f (.f (.f ?_))))))))))))))
 refine .f (.f (.f (.f (.f (.f (.f (.f ?_)))))))
 exact asL
 refine .f (.f (.f (.f (.f (.f (.f (.f (.f (.f (.f (.f (.f (.f (.f ?_))))))))))))))
 refine .f (.f (.f (.f (.f (.f (.f (.f (.f (.f (.f (.f (.f (.f (.f ?_))))))))))))))
 exact asL
 refine .d (sE h (fun acM h => ?_) (fun acM h => ?_))
 refine .d (bk h fun Hr Ic h => (aS (ny Ic) (sV h (fun acN h => ?_) (fun acN h => ?_))))
 refine ⟨rfl, (.t ⟨rfl, _, rfl, (.t (bk h fun abp acO h => (aS (nx _ _ _ acO) (.t (sV h (fun acP h => ?_) (fun acP h => ?_))))))⟩)⟩
 refine .t (.t (sE h (fun Ie h => ?_) (fun Ie h => ?_)))
 refine .t (.t (.t (.t (.t (.t (.t (.t ?_)))))))
 exact asL
 refine ⟨rfl, (.f ⟨rfl, _, rfl, (.f (bk h fun VD QQ h => ⟨aA QQ, _, (ax QQ).trans (ae.au VD), (.f (.f (.f (.t (.f (.t ?_))))))⟩))⟩)⟩
 exact asL
 refine .f (.f (.f (.f ?_)))
 exact asL
 refine .f (.f (.f (.f (.f (.f (.f (.f ?_)))))))
 exact asL
 refine .d (sE h (fun Ig h => ?_) (fun Ig h => ?_))
 refine .d ⟨rfl, _, rfl, (bk h fun abq acQ h => (aS (tA _ _ acQ) ?_))⟩
 exact asL
 refine .d (sE h (fun acR h => ?_) (fun acR h => ?_))
 refine .d (.d (bk h fun abr acS h => (aS (ny acS) (l8 h (fun acT h => ?_) (fun acT h => ?_)))))
 refine .t (.t (.t (.t (.t (.t (.t (.d ?_)))))))
 exact asL
 refine ⟨rfl, (.f ⟨rfl, _, rfl, (.f (bk h fun VE QR h => ⟨aA QR, _, (ax QR).trans (ae.au VE), (.f (.f (bk h fun abt acU h => (aS (tA _ _ acU) (.f (.f (l8 h (fun Ih h => ?_) (fun Ih h => ?_))))))))⟩))⟩)⟩
 refine .d ?_
 exact asL
 obtain ⟨Hs, acV, DI⟩ := bd h
 replace h := acV
 refine .cut (fun σ η => .inl () = Hs ∧ σ = [] ∧ η = []) ?_ ?_
 refine .d ?_
 have acW := acb _ _ _ h
 refine le (ql (motive := fun acX eZ acY => a0 = acX → Hs = acY → aG _ _ [(1, .aM 0 0 0 0), (5, .int .i64 (a0.ah.length : Int)), (6, .int .i64 eZ)] [.row 0 4 1 29 (fun _ => a0.lit)]) ?_ a0 1 Hs acW rfl rfl) (tk [0] ⟨.p, .i, .i, ⟨⟩⟩ ⟨(cF rfl), ⟨⟩⟩)
 intro _ acZ _ QS _ _ acX eZ acY h QT  NK ac0
 subst NK
 subst ac0
 refine aG.round (.d (.d (sD h (fun Ii h => ?_) (fun Ii h => ?_))))
 refine .d (.d ⟨rfl, ⟨rfl, _, rfl, (bk h fun gG Ai h => ⟨aA Ai, _, (ax Ai).trans (ae.au gG), ⟨rfl, _, fun _ => [.int .i64 gG.ai, .int .i64 gG.aD, .str gG.aj, sl 4 ae.cells gG.ah], rfl, bX rfl, (.d ⟨rfl, _, rfl, ?_⟩)⟩⟩)⟩⟩)
 obtain ⟨⟨uP, z7⟩, ac1, h⟩ := bd h
 refine aS (ly ac1) ?_
 obtain ⟨anU, ac2, ac3⟩ := bd h
 replace h := ac2
 refine .cut (fun σ η => ∃ wL, wL = anU ∧ σ = [(1, .aM 0 0 0 0), (5, .int .i64 (a0.ah.length : Int)), (6, .int .i64 eZ), (7, .aM 1 0 0 0), (8, .bool uP), (9, .bool z7), (10, .bool wL)] ∧ η = [.row 0 4 1 29 (fun _ => a0.lit), .row 0 4 1 29 (fun _ => gG.lit)]) ?_ ?_
 refine ⟨rfl, ⟨rfl, _, rfl, (sE h (fun Ij h => ?_) (fun Ij h => ?_))⟩⟩
 refine .t (.t (sE h (fun Ik h => ?_) (fun Ik h => ?_)))
 refine ⟨rfl, (.t ⟨rfl, _, rfl, (.t (.t (.t (sE h (fun Il h => ?_) (fun Il h => ?_)))))⟩)⟩
 refine ⟨rfl, (.t ⟨rfl, _, rfl, (.t (bk h fun Ca Aj h => ⟨aA Aj, _, (ax Aj).trans (ae.au Ca), (.t (.t (.t (.t (sE h (fun Im h => ?_) (fun Im h => ?_))))))⟩))⟩)⟩
 refine ⟨rfl, (.t ⟨rfl, _, rfl, (.t (bk h fun Cb Ak h => ⟨aA Ak, _, (ax Ak).trans (ae.au Cb), (.t (.t (bk h fun EL ac4 h => (aS (acZ _ _ ac4) (.t (sV h (fun ac5 h => ?_) (fun ac5 h => ?_)))))))⟩))⟩)⟩
 exact ⟨rfl, (.t ⟨rfl, _, rfl, (.t (bk h fun Cc QU h => ⟨aA QU, _, (ax QU).trans (ae.au Cc), (.t (.t (bk h fun EM ac6 h => (aS (QS _ _ ac6) (.t (ct ⟨_, si h, rfl, rfl⟩ (tk [0, 1] ⟨.p, .i, .i, .p, .b, .b, .b, ⟨⟩⟩ ⟨(cF rfl), (cF rfl), ⟨⟩⟩)))))))⟩))⟩)⟩
 exact .f (.f (.f (.f (.f (ct ⟨_, si h, rfl, rfl⟩ (tk [0, 1] ⟨.p, .i, .i, .p, .b, .b, .b, ⟨⟩⟩ ⟨(cF rfl), (cF rfl), ⟨⟩⟩))))))
 exact .f (.f (.f (.f (.f (.f (.f (.f (.f (.f (.f (ct ⟨_, si h, rfl, rfl⟩ (tk [0, 1] ⟨.p, .i, .i, .p, .b, .b, .b, ⟨⟩⟩ ⟨(cF rfl), (cF rfl), ⟨⟩⟩))))))))))))
 refine .f (.f (.f (.f (.f (.f (.f (.f (.f (.f (.f (.f (.f (.f (.f ?_))))))))))))))
 exact .f (.f (.f (ct ⟨_, si h, rfl, rfl⟩ (tk [0, 1] ⟨.p, .i, .i, .p, .b, .b, .b, ⟨⟩⟩ ⟨(cF rfl), (cF rfl), ⟨⟩⟩))))
 refine .f (.f (.f (.f (.f (.f (.f (.f (.f (.f (.f (.f (.f (.f (.f ?_))))))))))))))
 exact .f (.f (.f (.f (.f (.f (.f (.f (ct ⟨_, si h, rfl, rfl⟩ (tk [0, 1] ⟨.p, .i, .i, .p, .b, .b, .b, ⟨⟩⟩ ⟨(cF rfl), (cF rfl), ⟨⟩⟩)))))))))
 refine .f (.f (.f (.f (.f (.f (.f (.f (.f (.f (.f (.f (.f (.f (.f ?_))))))))))))))
 exact .f (.f (.f (.f (.f (.f (.f (.f (.f (.f (.f (ct ⟨_, si h, rfl, rfl⟩ (tk [0, 1] ⟨.p, .i, .i, .p, .b, .b, .b, ⟨⟩⟩ ⟨(cF rfl), (cF rfl), ⟨⟩⟩))))))))))))
 rintro _ _ ⟨wL, rfl, rfl, rfl⟩
 replace h := ac3
 obtain ⟨anV, ac7, ac8⟩ := bd h
 replace h := ac7
 refine .cut (fun σ η => ∃ yy, yy = anV ∧ σ = [(1, .aM 0 0 0 0), (5, .int .i64 (a0.ah.length : Int)), (6, .int .i64 eZ), (8, .bool uP), (9, .bool z7), (10, .bool wL), (11, .bool yy)] ∧ η = [.row 0 4 1 29 (fun _ => a0.lit)]) ?_ ?_
 refine ⟨rfl, ⟨rfl, _, rfl, (sE h (fun ac9 h => ?_) (fun ac9 h => ?_))⟩⟩
 refine .t (.t (.t (.t (sE h (fun ada h => ?_) (fun ada h => ?_)))))
 refine ⟨rfl, (.t ⟨rfl, _, rfl, (.t (.t (.t (sE h (fun Ip h => ?_) (fun Ip h => ?_)))))⟩)⟩
 exact ⟨rfl, (.t ⟨rfl, _, rfl, (.t (bk h fun Cd QV h => ⟨aA QV, _, (ax QV).trans (ae.au Cd), (.t (.t (bk h fun EN adb h => (aS (QS _ _ adb) (.t (ct ⟨_, si h, rfl, rfl⟩ (tk [0] ⟨.p, .i, .i, .b, .b, .b, .b, ⟨⟩⟩ ⟨(cF rfl), ⟨⟩⟩)))))))⟩))⟩)⟩
 exact .f (.f (.f (.f (.f (ct ⟨_, si h, rfl, rfl⟩ (tk [0] ⟨.p, .i, .i, .b, .b, .b, .b, ⟨⟩⟩ ⟨(cF rfl), ⟨⟩⟩))))))
 exact .f (.f (.f (.f (.f (.f (.f (.f (.f (.f (ct ⟨_, si h, rfl, rfl⟩ (tk [0] ⟨.p, .i, .i, .b, .b, .b, .b, ⟨⟩⟩ ⟨(cF rfl), ⟨⟩⟩)))))))))))
 refine .f (.f (.f (.f (.f (.f (.f (.f (.f (.f (.f (.f (.f (.f (.f ?_))))))))))))))
 exact ct ⟨_, si h, rfl, rfl⟩ (tk [0] ⟨.p, .i, .i, .b, .b, .b, .b, ⟨⟩⟩ ⟨(cF rfl), ⟨⟩⟩)
 rintro _ _ ⟨yy, rfl, rfl, rfl⟩
 replace h := ac8
 refine .d (l8 h (fun ade h => ?_) (fun ade h => ?_))
 refine .t (.t (.t (.t (.t (.t (.t (.t (.d ?_))))))))
 obtain rfl := si h
 replace h := DI
 exact asL
 refine .f (.f (l8 h (fun Iq h => ?_) (fun Iq h => ?_)))
 refine .t (.t (.t (.t (.t (.d ?_)))))
 obtain rfl := si h
 replace h := DI
 exact asL
 refine .f (.f (l8 h (fun Ir h => ?_) (fun Ir h => ?_)))
 refine .t (.f (.t (.f (l8 h (fun adf h => ?_) (fun adf h => ?_)))))
 refine .d ?_
 obtain rfl := si h
 replace h := DI
 exact asL
 exact lg (QT _ _ _ h rfl rfl) (tk [0] ⟨.p, .i, .i, ⟨⟩⟩ ⟨(cF rfl), ⟨⟩⟩)
 exact .f (.f (.f (.f (.f (lg (QT _ _ _ h rfl rfl) (tk [0] ⟨.p, .i, .i, ⟨⟩⟩ ⟨(cF rfl), ⟨⟩⟩))))))
 exact asZ
 rintro _ _ ⟨rfl, rfl, rfl⟩
 replace h := DI
 refine .d ?_
 exact asL
 exact asZ
 rintro _ _ ⟨rfl, rfl, rfl⟩
 replace h := eH
 exact atd
 intro F0 F1 F2 lu lv hF2 a0 eZ o h
 exact .mk F0 lu F1 lv F2 hF2 a0 eZ o h
 intro _ adg a0 a1 r h
 refine gd Tryz.func149 ?_
 refine .d ?_
 obtain ⟨Hk, adh, QW⟩ := bd h
 replace h := adh
 refine .cut (fun σ η => .inl () = Hk ∧ σ = [] ∧ η = []) ?_ ?_
 refine .d ?_
 have adi := adg _ _ _ h
 refine le (qj (motive := fun adj iy adk => a0 = adj → Hk = adk → aG _ _ [(0, sl 4 ae.cells a0), (5, .int .i64 iy)] []) ?_ a0 a1 Hk adi rfl rfl) (tk [] ⟨.l, .i, ⟨⟩⟩ ⟨⟩)
 intro _ adl _ _ adj iy adk h adm  NL adn
 subst NL
 subst adn
 refine aG.round (.d (.d (sD h (fun Is h => ?_) (fun Is h => ?_))))
 refine .d (.d (bk h fun B8 QX h => ⟨aA QX, _, (ax QX).trans (ae.au B8), (bk h fun v131 It h => (aS (adl _ _ It) (l8 h (fun Iu h => ?_) (fun Iu h => ?_))))⟩))
 refine .d ?_
 obtain rfl := si h
 replace h := QW
 exact eB h
 exact lg (adm _ _ _ h rfl rfl) (tk [] ⟨.l, .i, ⟨⟩⟩ ⟨⟩)
 exact asZ
 rintro _ _ ⟨rfl, rfl, rfl⟩
 replace h := QW
 exact atd
 intro F0 F1 lu lv a0 iy o h
 exact .mk F0 lu F1 lv a0 iy o h
 intro F0 F1 lu lv a0 oy o h
 exact .mk F0 lu F1 lv a0 oy o h
theorem yC {a0 : ae} {r : Bool} (h : aQ a0 = some r) : ACall Tryz.prog 79 [.agg a0.lit] [] (fun res h => res = .bool r ∧ h = []) := uQ.1 a0 r h
def lz (a0 : ae) : Option (Bool) :=
 jV a0 >>= fun v1 =>
 (if v1 = true then
 aQ a0 >>= fun v4 =>
 some v4
 else
 some false)
theorem Al {a0 : ae} {r : Bool} (h : lz a0 = some r) : ACall Tryz.prog 36 [.agg a0.lit] [] (fun res h => res = .bool r ∧ h = []) := by
 refine gd Tryz.func36 ?_
 unfold lz at h
 refine .d (.d ⟨rfl, _, rfl, (bk h fun v1 lx h => (aS (wK lx) (sV h (fun ow h => ?_) (fun ow h => ?_))))⟩)
 exact ⟨rfl, _, rfl, (.t (bk h fun v4 tV h => (aS (yC tV) (.t (eB h)))))⟩
 exact .f (.f (eB h))
set_option maxRecDepth 100000
def cQ (a0 : List ae) (a1 : Int) (s5 : ar) (y6 : Int) : Option (ar) :=
 (if y6 < (a0.length : Int) then
 idx a0 y6 >>= fun x10 =>
 (if x10.ai = a1 then
 (
 (if s5 = ([] : ar) then
 some s5
 else
 aH s5 [44, 32] >>= fun s18 =>
 some s18)
 : Option (ar)) >>= fun Nj =>
 idx a0 y6 >>= fun QY =>
 (if QY.aD = 1 then
 aH Nj [38] >>= fun s23 =>
 aH s23 [36] >>= fun V0 =>
 idx a0 y6 >>= fun x27 =>
 aH V0 x27.aj >>= fun s29 =>
 cQ a0 a1 s29 (aT (y6 + 1))
 else
 aH Nj [36] >>= fun s31 =>
 idx a0 y6 >>= fun Nk =>
 aH s31 Nk.aj >>= fun s35 =>
 cQ a0 a1 s35 (aT (y6 + 1)))
 else
 cQ a0 a1 s5 (aT (y6 + 1)))
 else
 some s5)
partial_fixpoint
def gg (a0 : List ae) (a1 : Int) : Option (ar) :=
 (
 cQ a0 a1 [] 0
 : Option (ar)) >>= fun s1 =>
 aH [40] s1 >>= fun s39 =>
 aH s39 [41] >>= fun s41 =>
 some s41
theorem lA {a0 : List ae} {a1 : Int} {r : ar} (h : gg a0 a1 = some r) : ACall Tryz.prog 91 [sl 4 ae.cells a0, .int .i64 a1] [] (fun res h => res = .str r ∧ h = []) := by
 refine gd Tryz.func91 ?_
 unfold gg at h
 refine .d (.d ?_)
 obtain ⟨o2, uG, uH⟩ := bd h
 replace h := uG
 refine .cut (fun σ η => ∃ s1, s1 = o2 ∧ σ = [(5, .str s1)] ∧ η = []) ?_ ?_
 refine .d ?_
 refine le (cQ.partial_correctness a0 a1 (motive := fun s5 y6 o37 => o2 = o37 → aG _ _ [(0, sl 4 ae.cells a0), (1, .int .i64 a1), (5, .str s5), (6, .int .i64 y6)] []) ?_ [] 0 o2 h rfl) (tk [] ⟨.l, .i, .s, .i, ⟨⟩⟩ ⟨⟩)
 intro F8 yq s5 y6 o37 h anW
 subst anW
 refine aG.round (.d (.d (sD h (fun B1 h => ?_) (fun B1 h => ?_))))
 refine .d (.d (.d (bk h fun x10 Ao h => ⟨aA Ao, _, (ax Ao).trans (ae.au x10), (sN h (fun oa h => ?_) (fun oa h => ?_))⟩)))
 exact lg (yq _ _ _ h rfl) (tk [] ⟨.l, .i, .s, .i, ⟨⟩⟩ ⟨⟩)
 obtain ⟨o14, anX, anY⟩ := bd h
 replace h := anX
 refine .cut (fun σ η => ∃ Nj, Nj = o14 ∧ σ = [(0, sl 4 ae.cells a0), (1, .int .i64 a1), (5, .str Nj), (6, .int .i64 y6)] ∧ η = []) ?_ ?_
 refine .d (VN h (fun ri h => ?_) (fun ri h => ?_))
 exact bk h fun s18 Iv h => ⟨ay Iv, s18, az Iv, (ct ⟨_, si h, rfl, rfl⟩ (tk [] ⟨.l, .i, .s, .i, ⟨⟩⟩ ⟨⟩))⟩
 exact ct ⟨_, si h, rfl, rfl⟩ (tk [] ⟨.l, .i, .s, .i, ⟨⟩⟩ ⟨⟩)
 rintro _ _ ⟨Nj, rfl, rfl, rfl⟩
 replace h := anY
 refine .d (.d (bk h fun QY EP h => ⟨aA EP, _, (ax EP).trans (ae.au QY), (sE h (fun Ap h => ?_) (fun Ap h => ?_))⟩))
 exact bk h fun s23 ado h => ⟨ay ado, s23, az ado, (bk h fun V0 Iw h => ⟨ay Iw, V0, az Iw, (bk h fun x27 adp h => ⟨aA adp, _, (ax adp).trans (ae.au x27), (bk h fun s29 adq h => ⟨ay adq, s29, az adq, (lg (yq _ _ _ h rfl) (tk [] ⟨.l, .i, .s, .i, ⟨⟩⟩ ⟨⟩))⟩)⟩)⟩)⟩
 exact bk h fun s31 ads h => ⟨ay ads, s31, az ads, (bk h fun Nk Ix h => ⟨aA Ix, _, (ax Ix).trans (ae.au Nk), (bk h fun s35 Iy h => ⟨ay Iy, s35, az Iy, (lg (yq _ _ _ h rfl) (tk [] ⟨.l, .i, .s, .i, ⟨⟩⟩ ⟨⟩))⟩)⟩)⟩
 exact atk
 rintro _ _ ⟨s1, rfl, rfl, rfl⟩
 replace h := uH
 exact .d (bk h fun s39 adt h => ⟨ay adt, s39, az adt, (bk h fun s41 adu h => ⟨ay adu, s41, az adu, (eS h)⟩)⟩)
mutual
def bO (a0 : ae) (a1 : Int) : Option (ar) :=
 jW a0 >>= fun v1 =>
 (if v1 < a1 then
 dR a0 >>= fun v4 =>
 aH [40] v4 >>= fun s6 =>
 aH s6 [41] >>= fun s8 =>
 some s8
 else
 dR a0 >>= fun v10 =>
 some v10)
partial_fixpoint
def dR (a0 : ae) : Option (ar) :=
 ((
 (if a0.ai = 1 then
 m94 a0.aD >>= fun v16 =>
 some (.inr v16)
 else
 (if a0.ai = 2 then
 ib a0.aj >>= fun yD =>
 some (.inr yD)
 else
 (if a0.ai = 3 then
 ko ([[110, 117, 108, 108], [102, 97, 108, 115, 101], [116, 114, 117, 101]] : List ar) a0.aD >>= fun v22 =>
 some (.inr v22)
 else
 (if a0.ai = 4 then
 aH [36] a0.aj >>= fun V0 =>
 some (.inr V0)
 else
 (if a0.ai = 5 then
 (
 dS a0 [] 0
 : Option (ar)) >>= fun s28 =>
 aH [91] s28 >>= fun s77 =>
 aH s77 [93] >>= fun s79 =>
 some (.inr s79)
 else
 (if a0.ai = 7 then
 eh a0 12 [91] 1 >>= fun QC =>
 aH QC [93] >>= fun s84 =>
 some (.inr s84)
 else
 (if a0.ai = 8 then
 idx a0.ah 0 >>= fun x87 =>
 bO x87 12 >>= fun v89 =>
 aH v89 [45, 62] >>= fun s91 =>
 aH s91 a0.aj >>= fun s93 =>
 some (.inr s93)
 else
 (if a0.ai = 9 then
 idx a0.ah 0 >>= fun x96 =>
 ko ([[], [33], [45]] : List ar) a0.aD >>= fun QZ =>
 bO x96 11 >>= fun adv =>
 aH QZ adv >>= fun V1 =>
 some (.inr V1)
 else
 (if a0.ai = 10 then
 db a0.aD >>= fun v105 =>
 jb a0.aD >>= fun v107 =>
 aH [32] v107 >>= fun V2 =>
 aH V2 [32] >>= fun V3 =>
 db a0.aD >>= fun adw =>
 eh a0 v105 V3 (aT (adw + 1)) >>= fun Hj =>
 some (.inr Hj)
 else
 (if a0.ai = 12 then
 eh a0 4 [32, 124, 124, 32] 5 >>= fun adx =>
 some (.inr adx)
 else
 (if a0.ai = 11 then
 eh a0 5 [32, 38, 38, 32] 6 >>= fun ady =>
 some (.inr ady)
 else
 (if a0.ai = 13 then
 eh a0 4 [32, 63, 63, 32] 3 >>= fun v124 =>
 some (.inr v124)
 else
 (if a0.ai = 14 then
 idx a0.ah 2 >>= fun V4 =>
 eh a0 3 [32, 63, 32] 1 >>= fun Iz =>
 aH Iz [32, 58, 32] >>= fun V5 =>
 bO V4 2 >>= fun adz =>
 aH V5 adz >>= fun V6 =>
 some (.inr V6)
 else
 (if a0.ai = 15 then
 eh a0 12 [32, 61, 32] 1 >>= fun v138 =>
 some (.inr v138)
 else
 (if a0.ai = 16 then
 eh a0 12 [91, 93, 32, 61, 32] 1 >>= fun v141 =>
 some (.inr v141)
 else
 (if a0.ai = 17 then
 aH [36] a0.aj >>= fun V7 =>
 aH V7 [32, 61, 32, 38, 36] >>= fun V8 =>
 idx a0.ah 0 >>= fun V9 =>
 aH V8 V9.aj >>= fun Wa =>
 some (.inr Wa)
 else
 (if a0.ai = 22 then
 aH [110, 101, 119, 32] a0.aj >>= fun Wb =>
 eJ a0.ah 0 >>= fun uS =>
 aH Wb uS >>= fun Wc =>
 some (.inr Wc)
 else
 (if a0.ai = 20 then
 idx a0.ah 0 >>= fun Wd =>
 bO Wd 12 >>= fun v162 =>
 aH v162 [45, 62] >>= fun We =>
 aH We a0.aj >>= fun Wf =>
 eJ a0.ah 1 >>= fun v168 =>
 aH Wf v168 >>= fun Wg =>
 some (.inr Wg)
 else
 (if a0.ai = 19 then
 idx a0.ah 0 >>= fun Wh =>
 (if Wh.ai = 8 then
 idx a0.ah 0 >>= fun Wi =>
 dR Wi >>= fun adA =>
 aH [40] adA >>= fun Wj =>
 aH Wj [41] >>= fun Wk =>
 eJ a0.ah 1 >>= fun adB =>
 aH Wk adB >>= fun Wl =>
 some (.inr Wl)
 else
 idx a0.ah 0 >>= fun Wm =>
 bO Wm 12 >>= fun adC =>
 eJ a0.ah 1 >>= fun adD =>
 aH adC adD >>= fun Wn =>
 some (.inr Wn))
 else
 (if a0.ai = 23 then
 gg a0.ah 24 >>= fun IA =>
 aH [102, 117, 110, 99, 116, 105, 111, 110, 32] IA >>= fun ID =>
 (if (a0.ah.length : Int) > 1 then
 idx a0.ah (aT ((a0.ah.length : Int) - 2)) >>= fun Wo =>
 (if Wo.ai = 25 then
 aH ID [32, 117, 115, 101, 32] >>= fun Wp =>
 gg a0.ah 25 >>= fun Aq =>
 aH Wp Aq >>= fun Wq =>
 aH Wq [32] >>= fun Wr =>
 idx a0.ah (aT ((a0.ah.length : Int) - 1)) >>= fun Ws =>
 bB Ws >>= fun adE =>
 aH Wr adE >>= fun Wt =>
 some (.inr Wt)
 else
 aH ID [32] >>= fun Wu =>
 idx a0.ah (aT ((a0.ah.length : Int) - 1)) >>= fun Wv =>
 bB Wv >>= fun adF =>
 aH Wu adF >>= fun Ww =>
 some (.inr Ww))
 else
 aH ID [32] >>= fun Wx =>
 idx a0.ah (aT ((a0.ah.length : Int) - 1)) >>= fun Wy =>
 bB Wy >>= fun adG =>
 aH Wx adG >>= fun Wz =>
 some (.inr Wz))
 else
 some (.inl ())))))))))))))))))))))
 : Option ((Unit) ⊕ ar)) >>= fun o12 => match o12 with
 | .inr r => some r
 | .inl _ =>
 eJ a0.ah 0 >>= fun adH =>
 aH a0.aj adH >>= fun WA =>
 some WA
 )
partial_fixpoint
def eJ (a0 : List ae) (a1 : Int) : Option (ar) :=
 (
 e9 a0 a1 [] a1
 : Option (ar)) >>= fun IF =>
 aH [40] IF >>= fun WB =>
 aH WB [41] >>= fun WC =>
 some WC
partial_fixpoint
def eh (a0 : ae) (a1 : Int) (a2 : ar) (a3 : Int) : Option (ar) :=
 idx a0.ah 0 >>= fun WD =>
 idx a0.ah 1 >>= fun B7 =>
 bO WD a1 >>= fun Hq =>
 aH Hq a2 >>= fun WE =>
 bO B7 a3 >>= fun adI =>
 aH WE adI >>= fun WG =>
 some WG
partial_fixpoint
def bB (a0 : ae) : Option (ar) :=
 (
 (if (a0.ah.length : Int) > 0 then
 idx a0.ah 0 >>= fun uT =>
 cy uT >>= fun wO =>
 (if wO = true then
 idx a0.ah 0 >>= fun uU =>
 bO uU 1 >>= fun wP =>
 some wP
 else
 some [])
 else
 some [])
 : Option (ar)) >>= fun ub =>
 ((
 (if a0.ai = 31 then
 aH [63, 62, 10] a0.aj >>= fun WH =>
 aH WH [60, 63, 32] >>= fun WI =>
 some (.inr WI)
 else
 (if a0.ai = 32 then
 aH [101, 99, 104, 111, 32] ub >>= fun WJ =>
 aH WJ [59] >>= fun WK =>
 some (.inr WK)
 else
 (if a0.ai = 33 then
 aH ub [59] >>= fun WL =>
 some (.inr WL)
 else
 (if a0.ai = 34 then
 aH [105, 102, 32, 40] ub >>= fun WM =>
 aH WM [41, 32] >>= fun WN =>
 idx a0.ah 1 >>= fun Ce =>
 bB Ce >>= fun nz =>
 aH WN nz >>= fun NM =>
 (if (a0.ah.length : Int) = 3 then
 aH NM [32, 101, 108, 115, 101, 32] >>= fun WO =>
 idx a0.ah 2 >>= fun WQ =>
 bB WQ >>= fun adJ =>
 aH WO adJ >>= fun WR =>
 some (.inr WR)
 else
 some (.inr NM))
 else
 (if a0.ai = 35 then
 aH [119, 104, 105, 108, 101, 32, 40] ub >>= fun WS =>
 aH WS [41, 32] >>= fun WT =>
 idx a0.ah 1 >>= fun WU =>
 bB WU >>= fun adK =>
 aH WT adK >>= fun WV =>
 some (.inr WV)
 else
 (if a0.ai = 36 then
 aH [102, 111, 114, 101, 97, 99, 104, 32, 40] ub >>= fun WW =>
 aH WW [32, 97, 115, 32, 36] >>= fun WX =>
 idx a0.ah 1 >>= fun WY =>
 aH WX WY.aj >>= fun NN =>
 (if (a0.ah.length : Int) = 4 then
 aH NN [32, 61, 62, 32, 36] >>= fun WZ =>
 idx a0.ah 2 >>= fun qm =>
 aH WZ qm.aj >>= fun W0 =>
 aH W0 [41, 32] >>= fun W1 =>
 idx a0.ah (aT ((a0.ah.length : Int) - 1)) >>= fun W2 =>
 bB W2 >>= fun adL =>
 aH W1 adL >>= fun W3 =>
 some (.inr W3)
 else
 aH NN [41, 32] >>= fun W4 =>
 idx a0.ah (aT ((a0.ah.length : Int) - 1)) >>= fun W5 =>
 bB W5 >>= fun adM =>
 aH W4 adM >>= fun W6 =>
 some (.inr W6))
 else
 (if a0.ai = 37 then
 some (.inr [98, 114, 101, 97, 107, 59])
 else
 (if a0.ai = 38 then
 some (.inr [99, 111, 110, 116, 105, 110, 117, 101, 59])
 else
 (if a0.ai = 39 then
 (if (a0.ah.length : Int) = 0 then
 some (.inr [114, 101, 116, 117, 114, 110, 59])
 else
 aH [114, 101, 116, 117, 114, 110, 32] ub >>= fun W7 =>
 aH W7 [59] >>= fun W8 =>
 some (.inr W8))
 else
 (if a0.ai = 40 then
 aH [103, 108, 111, 98, 97, 108, 32, 36] a0.aj >>= fun W9 =>
 aH W9 [59] >>= fun Xa =>
 some (.inr Xa)
 else
 (if a0.ai = 41 then
 idx a0.ah 0 >>= fun Xb =>
 bO Xb 12 >>= fun adN =>
 aH [117, 110, 115, 101, 116, 40] adN >>= fun Xc =>
 aH Xc [41, 59] >>= fun Xd =>
 some (.inr Xd)
 else
 (if a0.ai = 42 then
 aH [116, 104, 114, 111, 119, 32] ub >>= fun Xe =>
 aH Xe [59] >>= fun Xf =>
 some (.inr Xf)
 else
 (if a0.ai = 46 then
 (if (a0.ah.length : Int) = 2 then
 idx a0.ah 0 >>= fun Xg =>
 aH [36] Xg.aj >>= fun Xh =>
 aH Xh [32, 61, 32, 121, 105, 101, 108, 100, 32] >>= fun Xi =>
 idx a0.ah 1 >>= fun Xj =>
 bO Xj 1 >>= fun adO =>
 aH Xi adO >>= fun Xk =>
 aH Xk [59] >>= fun Xl =>
 some (.inr Xl)
 else
 aH [121, 105, 101, 108, 100, 32] ub >>= fun Xm =>
 aH Xm [59] >>= fun Xn =>
 some (.inr Xn))
 else
 (if a0.ai = 47 then
 ib a0.aj >>= fun adP =>
 aH [105, 110, 99, 108, 117, 100, 101, 32] adP >>= fun Xo =>
 aH Xo [59] >>= fun Xp =>
 some (.inr Xp)
 else
 (if a0.ai = 48 then
 gI a0.ah >>= fun adQ =>
 aH [123, 32] adQ >>= fun Xq =>
 aH Xq [125] >>= fun Xr =>
 some (.inr Xr)
 else
 (if a0.ai = 43 then
 idx a0.ah 0 >>= fun Xs =>
 bB Xs >>= fun IG =>
 aH [116, 114, 121, 32] IG >>= fun NO =>
 (
 bQ a0 NO 1
 : Option (ar)) >>= fun II =>
 some (.inr II)
 else
 (if a0.ai = 44 then
 aH [32, 99, 97, 116, 99, 104, 32, 40] a0.aj >>= fun Xt =>
 aH Xt [32, 36] >>= fun Xu =>
 idx a0.ah 0 >>= fun Xv =>
 aH Xu Xv.aj >>= fun Xw =>
 aH Xw [41, 32] >>= fun Xx =>
 idx a0.ah 1 >>= fun Xy =>
 bB Xy >>= fun adR =>
 aH Xx adR >>= fun Xz =>
 some (.inr Xz)
 else
 (if a0.ai = 45 then
 idx a0.ah 0 >>= fun XA =>
 bB XA >>= fun adS =>
 aH [32, 102, 105, 110, 97, 108, 108, 121, 32] adS >>= fun XB =>
 some (.inr XB)
 else
 some (.inl ())))))))))))))))))))
 : Option ((Unit) ⊕ ar)) >>= fun XC => match XC with
 | .inr r => some r
 | .inl _ =>
 nW a0 >>= fun adT =>
 some adT
 )
partial_fixpoint
def gI (a0 : List ae) : Option (ar) :=
 (
 fe a0 [] 0
 : Option (ar)) >>= fun IJ =>
 some IJ
partial_fixpoint
def nW (a0 : ae) : Option (ar) :=
 (
 (if (bits .and .i64 a0.aD 1) = 1 then
 some [112, 114, 105, 118, 97, 116, 101, 32]
 else
 some [])
 : Option (ar)) >>= fun ER =>
 (
 (if (bits .and .i64 a0.aD 2) = 2 then
 aH ER [115, 116, 97, 116, 105, 99, 32] >>= fun XD =>
 some XD
 else
 some ER)
 : Option (ar)) >>= fun Cf =>
 (
 (if a0.ai = 49 then
 some (a0.ai == 49)
 else
 some (a0.ai == 55))
 : Option (Bool)) >>= fun IK =>
 (if IK = true then
 aH Cf [102, 117, 110, 99, 116, 105, 111, 110, 32] >>= fun XE =>
 aH XE a0.aj >>= fun XF =>
 idx a0.ah (aT ((a0.ah.length : Int) - 1)) >>= fun XG =>
 gg a0.ah 24 >>= fun adU =>
 aH XF adU >>= fun XH =>
 aH XH [32] >>= fun XI =>
 bB XG >>= fun adV =>
 aH XI adV >>= fun XJ =>
 some XJ
 else
 (if a0.ai = 53 then
 aH [117, 115, 101, 32] a0.aj >>= fun XK =>
 aH XK [59] >>= fun XL =>
 some XL
 else
 (if a0.ai = 54 then
 aH Cf [36] >>= fun XM =>
 aH XM a0.aj >>= fun XN =>
 aH XN [32, 61, 32] >>= fun XO =>
 idx a0.ah 0 >>= fun XP =>
 dR XP >>= fun adW =>
 aH XO adW >>= fun XR =>
 aH XR [59] >>= fun XS =>
 some XS
 else
 aH [116, 114, 97, 105, 116, 32] a0.aj >>= fun XT =>
 (if a0.ai = 50 then
 aH [99, 108, 97, 115, 115, 32] a0.aj >>= fun IL =>
 (if (a0.ah.length : Int) > 0 then
 idx a0.ah 0 >>= fun XU =>
 (if XU.ai = 52 then
 aH IL [32, 101, 120, 116, 101, 110, 100, 115, 32] >>= fun XV =>
 idx a0.ah 0 >>= fun XW =>
 aH XV XW.aj >>= fun XX =>
 aH XX [32, 123, 32] >>= fun XY =>
 gI a0.ah >>= fun adX =>
 aH XY adX >>= fun XZ =>
 aH XZ [125] >>= fun X0 =>
 some X0
 else
 aH IL [32, 123, 32] >>= fun X1 =>
 gI a0.ah >>= fun yE =>
 aH X1 yE >>= fun X2 =>
 aH X2 [125] >>= fun X3 =>
 some X3)
 else
 aH IL [32, 123, 32] >>= fun X4 =>
 gI a0.ah >>= fun adY =>
 aH X4 adY >>= fun X5 =>
 aH X5 [125] >>= fun X6 =>
 some X6)
 else
 aH XT [32, 123, 32] >>= fun X7 =>
 gI a0.ah >>= fun adZ =>
 aH X7 adZ >>= fun X8 =>
 aH X8 [125] >>= fun X9 =>
 some X9))))
partial_fixpoint
def dS (a0 : ae) (oz : ar) (ld : Int) : Option (ar) :=
 (if ld < (a0.ah.length : Int) then
 (
 (if ld > 0 then
 aH oz [44, 32] >>= fun Ya =>
 some Ya
 else
 some oz)
 : Option (ar)) >>= fun NP =>
 idx a0.ah ld >>= fun Yb =>
 idx Yb.ah 0 >>= fun Hg =>
 bO Hg 1 >>= fun NG =>
 aH NP NG >>= fun Nl =>
 idx a0.ah ld >>= fun Yc =>
 (if (Yc.ah.length : Int) = 2 then
 aH Nl [32, 61, 62, 32] >>= fun Yd =>
 idx a0.ah ld >>= fun Ye =>
 idx Ye.ah 1 >>= fun Yf =>
 bO Yf 1 >>= fun v68 =>
 aH Yd v68 >>= fun Yg =>
 dS a0 Yg (aT (ld + 1))
 else
 dS a0 Nl (aT (ld + 1)))
 else
 some oz)
partial_fixpoint
def e9 (a0 : List ae) (a1 : Int) (iA : ar) (fu : Int) : Option (ar) :=
 (if fu < (a0.length : Int) then
 (if fu > a1 then
 aH iA [44, 32] >>= fun Cg =>
 idx a0 fu >>= fun uV =>
 bO uV 1 >>= fun yF =>
 aH Cg yF >>= fun Ch =>
 e9 a0 a1 Ch (aT (fu + 1))
 else
 idx a0 fu >>= fun Ci =>
 bO Ci 1 >>= fun ES =>
 aH iA ES >>= fun Cj =>
 e9 a0 a1 Cj (aT (fu + 1)))
 else
 some iA)
partial_fixpoint
def bQ (a0 : ae) (jh : ar) (iB : Int) : Option (ar) :=
 (if iB < (a0.ah.length : Int) then
 idx a0.ah iB >>= fun uW =>
 bB uW >>= fun uc =>
 aH jh uc >>= fun Ck =>
 bQ a0 Ck (aT (iB + 1))
 else
 some jh)
partial_fixpoint
def fe (a0 : List ae) (iC : ar) (gm : Int) : Option (ar) :=
 (if gm < (a0.length : Int) then
 idx a0 gm >>= fun Cl =>
 (if Cl.ai = 52 then
 fe a0 iC (aT (gm + 1))
 else
 idx a0 gm >>= fun Cm =>
 bB Cm >>= fun ET =>
 aH iC ET >>= fun Cn =>
 aH Cn [32] >>= fun Co =>
 fe a0 Co (aT (gm + 1)))
 else
 some iC)
partial_fixpoint
end
def xr (a0 : ae) (a1 : Int) (r : ar) : Prop := ACall Tryz.prog 82 [.agg a0.lit, .int .i64 a1] [] (fun res h => res = .str r ∧ h = [])
def Q0 (a0 : ae) (r : ar) : Prop := ACall Tryz.prog 45 [.agg a0.lit] [] (fun res h => res = .str r ∧ h = [])
def Q1 (a0 : List ae) (a1 : Int) (r : ar) : Prop := ACall Tryz.prog 90 [sl 4 ae.cells a0, .int .i64 a1] [] (fun res h => res = .str r ∧ h = [])
def Q2 (a0 : ae) (a1 : Int) (a2 : ar) (a3 : Int) (r : ar) : Prop := ACall Tryz.prog 87 [.agg a0.lit, .int .i64 a1, .str a2, .int .i64 a3] [] (fun res h => res = .str r ∧ h = [])
def xt (a0 : ae) (r : ar) : Prop := ACall Tryz.prog 39 [.agg a0.lit] [] (fun res h => res = .str r ∧ h = [])
def Q3 (a0 : List ae) (r : ar) : Prop := ACall Tryz.prog 47 [sl 4 ae.cells a0] [] (fun res h => res = .str r ∧ h = [])
def Q4 (a0 : ae) (r : ar) : Prop := ACall Tryz.prog 84 [.agg a0.lit] [] (fun res h => res = .str r ∧ h = [])
inductive dC : ae → ar → Int → (ar) → Prop
 | mk (Cp : ae → Int → Option (ar)) (Yh : ∀ a0 a1 r, Cp a0 a1 = some r → xr a0 a1 r) (cR : ae → ar → Int → Option (ar)) (rk : ∀ a0 oz ld o, cR a0 oz ld = some o → dC a0 oz ld o) (a0 : ae) (oz : ar) (ld : Int) (o : ar) (h : (
 (if ld < (a0.ah.length : Int) then
 (
 (if ld > 0 then
 aH oz [44, 32] >>= fun Ya =>
 some Ya
 else
 some oz)
 : Option (ar)) >>= fun NP =>
 idx a0.ah ld >>= fun Yb =>
 idx Yb.ah 0 >>= fun Hg =>
 Cp Hg 1 >>= fun NG =>
 aH NP NG >>= fun Nl =>
 idx a0.ah ld >>= fun Yc =>
 (if (Yc.ah.length : Int) = 2 then
 aH Nl [32, 61, 62, 32] >>= fun Yd =>
 idx a0.ah ld >>= fun Ye =>
 idx Ye.ah 1 >>= fun Yf =>
 Cp Yf 1 >>= fun v68 =>
 aH Yd v68 >>= fun Yg =>
 cR a0 Yg (aT (ld + 1))
 else
 cR a0 Nl (aT (ld + 1)))
 else
 some oz)
 ) = some o) : dC a0 oz ld o
theorem qn {motive : ae → ar → Int → (ar) → Prop} (step : ∀ (Cp : ae → Int → Option (ar)) (Yh : ∀ a0 a1 r, Cp a0 a1 = some r → xr a0 a1 r) (cR : ae → ar → Int → Option (ar)) (rk : ∀ a0 oz ld o, cR a0 oz ld = some o → dC a0 oz ld o) (a0 : ae) (oz : ar) (ld : Int) (o : ar) (h : (
 (if ld < (a0.ah.length : Int) then
 (
 (if ld > 0 then
 aH oz [44, 32] >>= fun Ya =>
 some Ya
 else
 some oz)
 : Option (ar)) >>= fun NP =>
 idx a0.ah ld >>= fun Yb =>
 idx Yb.ah 0 >>= fun Hg =>
 Cp Hg 1 >>= fun NG =>
 aH NP NG >>= fun Nl =>
 idx a0.ah ld >>= fun Yc =>
 (if (Yc.ah.length : Int) = 2 then
 aH Nl [32, 61, 62, 32] >>= fun Yd =>
 idx a0.ah ld >>= fun Ye =>
 idx Ye.ah 1 >>= fun Yf =>
 Cp Yf 1 >>= fun v68 =>
 aH Yd v68 >>= fun Yg =>
 cR a0 Yg (aT (ld + 1))
 else
 cR a0 Nl (aT (ld + 1)))
 else
 some oz)
 ) = some o) (ih : ∀ a0 oz ld o, cR a0 oz ld = some o → motive a0 oz ld o), motive a0 oz ld o) : ∀ a0 oz ld o, dC a0 oz ld o → motive a0 oz ld o :=
 fun a0 oz ld o h => dC.rec (motive := fun a0 oz ld o _ => motive a0 oz ld o) step h
inductive dD : (List ae) → Int → ar → Int → (ar) → Prop
 | mk (Cp : ae → Int → Option (ar)) (Yh : ∀ a0 a1 r, Cp a0 a1 = some r → xr a0 a1 r) (cU : (List ae) → Int → ar → Int → Option (ar)) (rl : ∀ a0 a1 iA fu o, cU a0 a1 iA fu = some o → dD a0 a1 iA fu o) (a0 : List ae) (a1 : Int) (iA : ar) (fu : Int) (o : ar) (h : (
 (if fu < (a0.length : Int) then
 (if fu > a1 then
 aH iA [44, 32] >>= fun Cg =>
 idx a0 fu >>= fun uV =>
 Cp uV 1 >>= fun yF =>
 aH Cg yF >>= fun Ch =>
 cU a0 a1 Ch (aT (fu + 1))
 else
 idx a0 fu >>= fun Ci =>
 Cp Ci 1 >>= fun ES =>
 aH iA ES >>= fun Cj =>
 cU a0 a1 Cj (aT (fu + 1)))
 else
 some iA)
 ) = some o) : dD a0 a1 iA fu o
theorem qo {motive : (List ae) → Int → ar → Int → (ar) → Prop} (step : ∀ (Cp : ae → Int → Option (ar)) (Yh : ∀ a0 a1 r, Cp a0 a1 = some r → xr a0 a1 r) (cU : (List ae) → Int → ar → Int → Option (ar)) (rl : ∀ a0 a1 iA fu o, cU a0 a1 iA fu = some o → dD a0 a1 iA fu o) (a0 : List ae) (a1 : Int) (iA : ar) (fu : Int) (o : ar) (h : (
 (if fu < (a0.length : Int) then
 (if fu > a1 then
 aH iA [44, 32] >>= fun Cg =>
 idx a0 fu >>= fun uV =>
 Cp uV 1 >>= fun yF =>
 aH Cg yF >>= fun Ch =>
 cU a0 a1 Ch (aT (fu + 1))
 else
 idx a0 fu >>= fun Ci =>
 Cp Ci 1 >>= fun ES =>
 aH iA ES >>= fun Cj =>
 cU a0 a1 Cj (aT (fu + 1)))
 else
 some iA)
 ) = some o) (ih : ∀ a0 a1 iA fu o, cU a0 a1 iA fu = some o → motive a0 a1 iA fu o), motive a0 a1 iA fu o) : ∀ a0 a1 iA fu o, dD a0 a1 iA fu o → motive a0 a1 iA fu o :=
 fun a0 a1 iA fu o h => dD.rec (motive := fun a0 a1 iA fu o _ => motive a0 a1 iA fu o) step h
inductive dE : ae → ar → Int → (ar) → Prop
 | mk (IM : ae → Option (ar)) (Yi : ∀ a0 r, IM a0 = some r → xt a0 r) (eT : ae → ar → Int → Option (ar)) (rm : ∀ a0 jh iB o, eT a0 jh iB = some o → dE a0 jh iB o) (a0 : ae) (jh : ar) (iB : Int) (o : ar) (h : (
 (if iB < (a0.ah.length : Int) then
 idx a0.ah iB >>= fun uW =>
 IM uW >>= fun uc =>
 aH jh uc >>= fun Ck =>
 eT a0 Ck (aT (iB + 1))
 else
 some jh)
 ) = some o) : dE a0 jh iB o
theorem qp {motive : ae → ar → Int → (ar) → Prop} (step : ∀ (IM : ae → Option (ar)) (Yi : ∀ a0 r, IM a0 = some r → xt a0 r) (eT : ae → ar → Int → Option (ar)) (rm : ∀ a0 jh iB o, eT a0 jh iB = some o → dE a0 jh iB o) (a0 : ae) (jh : ar) (iB : Int) (o : ar) (h : (
 (if iB < (a0.ah.length : Int) then
 idx a0.ah iB >>= fun uW =>
 IM uW >>= fun uc =>
 aH jh uc >>= fun Ck =>
 eT a0 Ck (aT (iB + 1))
 else
 some jh)
 ) = some o) (ih : ∀ a0 jh iB o, eT a0 jh iB = some o → motive a0 jh iB o), motive a0 jh iB o) : ∀ a0 jh iB o, dE a0 jh iB o → motive a0 jh iB o :=
 fun a0 jh iB o h => dE.rec (motive := fun a0 jh iB o _ => motive a0 jh iB o) step h
inductive dF : (List ae) → ar → Int → (ar) → Prop
 | mk (IM : ae → Option (ar)) (Yi : ∀ a0 r, IM a0 = some r → xt a0 r) (cV : (List ae) → ar → Int → Option (ar)) (rn : ∀ a0 iC gm o, cV a0 iC gm = some o → dF a0 iC gm o) (a0 : List ae) (iC : ar) (gm : Int) (o : ar) (h : (
 (if gm < (a0.length : Int) then
 idx a0 gm >>= fun Cl =>
 (if Cl.ai = 52 then
 cV a0 iC (aT (gm + 1))
 else
 idx a0 gm >>= fun Cm =>
 IM Cm >>= fun ET =>
 aH iC ET >>= fun Cn =>
 aH Cn [32] >>= fun Co =>
 cV a0 Co (aT (gm + 1)))
 else
 some iC)
 ) = some o) : dF a0 iC gm o
theorem qq {motive : (List ae) → ar → Int → (ar) → Prop} (step : ∀ (IM : ae → Option (ar)) (Yi : ∀ a0 r, IM a0 = some r → xt a0 r) (cV : (List ae) → ar → Int → Option (ar)) (rn : ∀ a0 iC gm o, cV a0 iC gm = some o → dF a0 iC gm o) (a0 : List ae) (iC : ar) (gm : Int) (o : ar) (h : (
 (if gm < (a0.length : Int) then
 idx a0 gm >>= fun Cl =>
 (if Cl.ai = 52 then
 cV a0 iC (aT (gm + 1))
 else
 idx a0 gm >>= fun Cm =>
 IM Cm >>= fun ET =>
 aH iC ET >>= fun Cn =>
 aH Cn [32] >>= fun Co =>
 cV a0 Co (aT (gm + 1)))
 else
 some iC)
 ) = some o) (ih : ∀ a0 iC gm o, cV a0 iC gm = some o → motive a0 iC gm o), motive a0 iC gm o) : ∀ a0 iC gm o, dF a0 iC gm o → motive a0 iC gm o :=
 fun a0 iC gm o h => dF.rec (motive := fun a0 iC gm o _ => motive a0 iC gm o) step h
theorem yG : (∀ a0 a1 r, bO a0 a1 = some r → xr a0 a1 r) ∧ (∀ a0 r, dR a0 = some r → Q0 a0 r) ∧ (∀ a0 r, bB a0 = some r → xt a0 r) ∧ (∀ a0 r, nW a0 = some r → Q4 a0 r) ∧ (∀ a0 r, gI a0 = some r → Q3 a0 r) ∧ (∀ a0 iC gm o, fe a0 iC gm = some o → dF a0 iC gm o) ∧ (∀ a0 jh iB o, bQ a0 jh iB = some o → dE a0 jh iB o) ∧ (∀ a0 a1 r, eJ a0 a1 = some r → Q1 a0 a1 r) ∧ (∀ a0 a1 iA fu o, e9 a0 a1 iA fu = some o → dD a0 a1 iA fu o) ∧ (∀ a0 a1 a2 a3 r, eh a0 a1 a2 a3 = some r → Q2 a0 a1 a2 a3 r) ∧ (∀ a0 oz ld o, dS a0 oz ld = some o → dC a0 oz ld o) := by
 refine bO.mutual_partial_correctness xr Q0 xt Q4 Q3 dF dE Q1 dD Q2 dC ?_ ?_ ?_ ?_ ?_ ?_ ?_ ?_ ?_ ?_ ?_
 intro _ xu a0 a1 r h
 refine gd Tryz.func82 ?_
 refine .d (.d (.d ⟨rfl, _, rfl, (bk h fun v1 lx h => (aS (wQ lx) (sD h (fun ow h => ?_) (fun ow h => ?_))))⟩))
 exact .d ⟨rfl, _, rfl, (bk h fun v4 tV h => (aS (xu _ _ tV) (bk h fun s6 hx7 h => ⟨ay hx7, s6, az hx7, (bk h fun s8 Q5 h => ⟨ay Q5, s8, az Q5, (eS h)⟩)⟩)))⟩
 exact .d ⟨rfl, _, rfl, (bk h fun v10 IP h => (aS (xu _ _ IP) (eS h)))⟩
 intro _ _ _ _ _ _ nX xu mb Ar tB anZ a0 r h
 refine gd Tryz.func45 ?_
 refine .d (.d ⟨rfl, ⟨rfl, _, rfl, ?_⟩⟩)
 obtain ⟨o12, an0, lf⟩ := bd h
 replace h := an0
 refine .cut (fun σ η => .inl () = o12 ∧ σ = [(1, .aM 0 0 0 0), (3, sl 4 ae.cells a0.ah)] ∧ η = [.row 0 4 1 29 (fun _ => a0.lit)]) ?_ ?_
 refine .d ⟨rfl, ⟨rfl, _, rfl, (.d (sE h (fun lU h => ?_) (fun lU h => ?_)))⟩⟩
 refine .d ⟨rfl, ⟨rfl, _, rfl, (bk h fun v16 Yj h => (aS (an1 Yj) ?_))⟩⟩
 exact asN
 refine .d (sE h (fun wR h => ?_) (fun wR h => ?_))
 refine .d ⟨rfl, ⟨rfl, _, rfl, (bk h fun yD IQ h => (aS (oH IQ) ?_))⟩⟩
 exact asN
 refine .d (sE h (fun wS h => ?_) (fun wS h => ?_))
 refine .d ⟨row cS ([[110, 117, 108, 108], [102, 97, 108, 115, 101], [116, 114, 117, 101]] : List ar), aC cS ([[110, 117, 108, 108], [102, 97, 108, 115, 101], [116, 114, 117, 101]] : List ar) rfl (aB rfl), ⟨rfl, ⟨rfl, _, rfl, (bk h fun v22 an2 h => (pcS (tC an2) ⟨(.rx rfl), .i, ⟨⟩⟩ ?_))⟩⟩⟩
 exact asN
 refine .d (sE h (fun NQ h => ?_) (fun NQ h => ?_))
 refine .d ⟨rfl, ⟨rfl, _, rfl, (bk h fun V0 Iw h => ⟨ay Iw, V0, az Iw, ?_⟩)⟩⟩
 exact asN
 refine .d (sE h (fun NR h => ?_) (fun NR h => ?_))
 refine .d ?_
 obtain ⟨o29, an3, an4⟩ := bd h
 replace h := an3
 refine .cut (fun σ η => ∃ s28, s28 = o29 ∧ σ = [(4, .str s28)] ∧ η = []) ?_ ?_
 refine .d ?_
 have an5 := anZ _ _ _ _ h
 refine le (qn (motive := fun p74 oz ld o72 => a0 = p74 → o29 = o72 → aG _ _ [(3, sl 4 ae.cells a0.ah), (4, .str oz), (5, .int .i64 ld)] []) ?_ a0 [] 0 o29 an5 rfl rfl) (tk [] ⟨.l, .s, .i, ⟨⟩⟩ ⟨⟩)
 intro _ ad0 _ _ p74 oz ld o72 h ad1  Yk an6
 subst Yk
 subst an6
 refine aG.round (.d (.d (sD h (fun an7 h => ?_) (fun an7 h => ?_))))
 refine .d ?_
 obtain ⟨o45, an8, an9⟩ := bd h
 replace h := an8
 refine .cut (fun σ η => ∃ NP, NP = o45 ∧ σ = [(3, sl 4 ae.cells a0.ah), (4, .str NP), (5, .int .i64 ld)] ∧ η = []) ?_ ?_
 refine .d (sD h (fun Yl h => ?_) (fun Yl h => ?_))
 exact bk h fun Ya IU h => ⟨ay IU, Ya, az IU, (ct ⟨_, si h, rfl, rfl⟩ (tk [] ⟨.l, .s, .i, ⟨⟩⟩ ⟨⟩))⟩
 exact ct ⟨_, si h, rfl, rfl⟩ (tk [] ⟨.l, .s, .i, ⟨⟩⟩ ⟨⟩)
 rintro _ _ ⟨NP, rfl, rfl, rfl⟩
 replace h := an9
 refine .d (bk h fun Yb ad2 h => ⟨aA ad2, _, (ax ad2).trans (ae.au Yb), (bk h fun Hg HA h => ⟨aA HA, _, (ax HA).trans (ae.au Hg), (bk h fun NG VO h => (aS (ad0 _ _ _ VO) (bk h fun Nl ad3 h => ⟨ay ad3, Nl, az ad3, (.d (bk h fun Yc ad4 h => ⟨aA ad4, _, (ax ad4).trans (ae.au Yc), (sE h (fun HD h => ?_) (fun HD h => ?_))⟩))⟩)))⟩)⟩)
 exact bk h fun Yd ad5 h => ⟨ay ad5, Yd, az ad5, (bk h fun Ye ad6 h => ⟨aA ad6, _, (ax ad6).trans (ae.au Ye), (bk h fun Yf ad7 h => ⟨aA ad7, _, (ax ad7).trans (ae.au Yf), (bk h fun v68 aoa h => (aS (ad0 _ _ _ aoa) (bk h fun Yg ad8 h => ⟨ay ad8, Yg, az ad8, (lg (ad1 _ _ _ _ h rfl rfl) (tk [] ⟨.l, .s, .i, ⟨⟩⟩ ⟨⟩))⟩)))⟩)⟩)⟩
 exact lg (ad1 _ _ _ _ h rfl rfl) (tk [] ⟨.l, .s, .i, ⟨⟩⟩ ⟨⟩)
 exact atk
 rintro _ _ ⟨s28, rfl, rfl, rfl⟩
 replace h := an4
 refine .d (bk h fun s77 ad9 h => ⟨ay ad9, s77, az ad9, (bk h fun s79 aea h => ⟨ay aea, s79, az aea, ?_⟩)⟩)
 exact asN
 refine .d (sE h (fun Ym h => ?_) (fun Ym h => ?_))
 refine .d ⟨rfl, _, rfl, (bk h fun QC HI h => (aS (tB _ _ _ _ _ HI) (bk h fun s84 IV h => ⟨ay IV, s84, az IV, ?_⟩)))⟩
 exact asN
 refine .d (sE h (fun aob h => ?_) (fun aob h => ?_))
 refine .d (.float [(0, true), (1, true), (2, true), (5, true), (6, true), (3, false), (4, true), (7, true), (8, true)] atD ?_)
 refine bk h fun x87 aeb h => ⟨aA aeb, _, (ax aeb).trans (ae.au x87), ⟨rfl, ⟨rfl, _, rfl, (bk h fun v89 aoc h => (aS (nX _ _ _ aoc) ⟨rfl, ⟨rfl, (bk h fun s91 aec h => ⟨ay aec, s91, az aec, (bk h fun s93 aed h => ⟨ay aed, s93, az aed, ?_⟩)⟩)⟩⟩))⟩⟩⟩
 exact asN
 refine .d (sE h (fun Yn h => ?_) (fun Yn h => ?_))
 refine .d (.float [(1, true), (2, true), (4, true), (5, true), (6, true), (0, false), (3, false), (7, false), (8, true), (9, true)] atD ?_)
 refine ⟨rfl, ⟨rfl, _, rfl, (bk h fun x96 IW h => ⟨aA IW, _, (ax IW).trans (ae.au x96), ⟨row cS ([[], [33], [45]] : List ar), aC cS ([[], [33], [45]] : List ar) rfl (aB rfl), ⟨rfl, ⟨rfl, (bk h fun QZ Yo h => (pcS (tC Yo) ⟨(.rx rfl), .i, ⟨⟩⟩ (bk h fun adv aee h => (aS (nX _ _ _ aee) (bk h fun V1 Q6 h => ⟨ay Q6, V1, az Q6, ?_⟩)))))⟩⟩⟩⟩)⟩⟩
 exact asN
 refine .d (sE h (fun IZ h => ?_) (fun IZ h => ?_))
 refine .d (.float [(0, true), (1, true), (2, true), (4, true), (5, true), (9, true), (10, true), (3, false), (6, false), (7, true), (8, true), (11, false), (12, true), (13, false), (14, true)] atD ?_)
 refine ⟨rfl, _, rfl, ⟨rfl, ⟨rfl, _, rfl, ⟨rfl, ⟨rfl, _, rfl, ⟨rfl, ⟨rfl, _, rfl, (bk h fun v105 aef h => (aS (mw aef) ⟨rfl, ⟨rfl, ⟨rfl, ⟨rfl, ⟨rfl, (bk h fun v107 I0 h => ?_)⟩⟩⟩⟩⟩))⟩⟩⟩⟩⟩⟩⟩
 refine aS (wT I0) ⟨rfl, ⟨rfl, ⟨rfl, (bk h fun V2 Q7 h => ⟨ay Q7, V2, az Q7, (bk h fun V3 Q8 h => ⟨ay Q8, V3, az Q8, (bk h fun adw aeg h => (aS (mw aeg) ⟨rfl, (bk h fun Hj HN h => (aS (tB _ _ _ _ _ HN) ?_))⟩))⟩)⟩)⟩⟩⟩
 exact asN
 refine .d (sE h (fun aeh h => ?_) (fun aeh h => ?_))
 refine .d ⟨rfl, _, rfl, (bk h fun adx aei h => (aS (tB _ _ _ _ _ aei) ?_))⟩
 exact asN
 refine .d (sE h (fun aej h => ?_) (fun aej h => ?_))
 refine .d ⟨rfl, _, rfl, (bk h fun ady aek h => (aS (tB _ _ _ _ _ aek) ?_))⟩
 exact asN
 refine .d (sE h (fun ael h => ?_) (fun ael h => ?_))
 refine .d ⟨rfl, _, rfl, (bk h fun v124 aem h => (aS (tB _ _ _ _ _ aem) ?_))⟩
 exact asN
 refine .d (sE h (fun I1 h => ?_) (fun I1 h => ?_))
 refine .d (.float [(0, true), (3, true), (4, true), (5, true), (1, false), (2, true), (6, false), (7, true), (8, true)] atD ?_)
 refine ⟨rfl, _, rfl, (bk h fun V4 Q9 h => ⟨aA Q9, _, (ax Q9).trans (ae.au V4), (bk h fun Iz I2 h => (aS (tB _ _ _ _ _ I2) (bk h fun V5 Ra h => ⟨ay Ra, V5, az Ra, (bk h fun adz aen h => (aS (nX _ _ _ aen) (bk h fun V6 Au h => ⟨ay Au, V6, az Au, ?_⟩)))⟩)))⟩)⟩
 exact asN
 refine .d (sE h (fun I3 h => ?_) (fun I3 h => ?_))
 refine .d ⟨rfl, _, rfl, (bk h fun v138 aeo h => (aS (tB _ _ _ _ _ aeo) ?_))⟩
 exact asN
 refine .d (sE h (fun aep h => ?_) (fun aep h => ?_))
 refine .d ⟨rfl, _, rfl, (bk h fun v141 aeq h => (aS (tB _ _ _ _ _ aeq) ?_))⟩
 exact asN
 refine .d (sE h (fun aer h => ?_) (fun aer h => ?_))
 refine .d ⟨rfl, ⟨rfl, _, rfl, (bk h fun V7 Rb h => ⟨ay Rb, V7, az Rb, (bk h fun V8 Rc h => ⟨ay Rc, V8, az Rc, (bk h fun V9 Rd h => ⟨aA Rd, _, (ax Rd).trans (ae.au V9), (bk h fun Wa Re h => ⟨ay Re, Wa, az Re, ?_⟩)⟩)⟩)⟩)⟩⟩
 exact asN
 refine .d (sE h (fun I4 h => ?_) (fun I4 h => ?_))
 refine .d (.float [(0, true), (1, true), (2, true), (3, true), (4, false), (5, true), (6, true)] atD ?_)
 refine ⟨rfl, ⟨rfl, _, rfl, (bk h fun Wb Rf h => ⟨ay Rf, Wb, az Rf, (bk h fun uS Av h => (aS (Ar _ _ _ Av) ⟨rfl, ⟨rfl, (bk h fun Wc Rg h => ⟨ay Rg, Wc, az Rg, ?_⟩)⟩⟩))⟩)⟩⟩
 exact asN
 refine .d (sE h (fun I5 h => ?_) (fun I5 h => ?_))
 refine .d (.float [(0, true), (1, true), (2, true), (5, true), (6, true), (8, true), (3, false), (4, true), (7, true), (9, false), (10, true), (11, true)] atD ?_)
 refine bk h fun Wd Rh h => ⟨aA Rh, _, (ax Rh).trans (ae.au Wd), ⟨rfl, ⟨rfl, _, rfl, (bk h fun v162 aes h => (aS (nX _ _ _ aes) ⟨rfl, ⟨rfl, (bk h fun We Ri h => ⟨ay Ri, We, az Ri, (bk h fun Wf Rj h => ⟨ay Rj, Wf, az Rj, (bk h fun v168 Ae h => (aS (Ar _ _ _ Ae) ⟨rfl, ?_⟩))⟩)⟩)⟩⟩))⟩⟩⟩
 refine ⟨rfl, (bk h fun Wg Rk h => ⟨ay Rk, Wg, az Rk, ?_⟩)⟩
 exact asN
 refine .d (sE h (fun HU h => ?_) (fun HU h => ?_))
 refine .d (.d (bk h fun Wh Rl h => ⟨aA Rl, _, (ax Rl).trans (ae.au Wh), (sE h (fun aet h => ?_) (fun aet h => ?_))⟩))
 refine .d (bk h fun Wi Rm h => ⟨aA Rm, _, (ax Rm).trans (ae.au Wi), (bk h fun adA aeu h => (aS (xu _ _ aeu) (bk h fun Wj Rn h => ⟨ay Rn, Wj, az Rn, (bk h fun Wk Ro h => ⟨ay Ro, Wk, az Ro, (bk h fun adB aev h => (aS (Ar _ _ _ aev) (bk h fun Wl xw h => ⟨ay xw, Wl, az xw, ?_⟩)))⟩)⟩)))⟩)
 exact asN
 refine .d (bk h fun Wm Rp h => ⟨aA Rp, _, (ax Rp).trans (ae.au Wm), (bk h fun adC aew h => (aS (nX _ _ _ aew) (bk h fun adD aex h => (aS (Ar _ _ _ aex) (bk h fun Wn Rq h => ⟨ay Rq, Wn, az Rq, ?_⟩)))))⟩)
 exact asN
 refine .d (sE h (fun aey h => ?_) (fun aey h => ?_))
 refine .d (bk h fun IA I6 h => (aS (lA I6) (bk h fun ID Rr h => ⟨ay Rr, ID, az Rr, (.d (.d (sD h (fun I7 h => ?_) (fun I7 h => ?_))))⟩)))
 refine .t (.t (.t (.t (bk h fun Wo Rs h => ⟨aA Rs, _, (ax Rs).trans (ae.au Wo), (.t (.t (.t (.t (sE h (fun aez h => ?_) (fun aez h => ?_))))))⟩))))
 refine bk h fun Wp Aw h => ⟨ay Aw, Wp, az Aw, (bk h fun Aq I8 h => (aS (lA I8) (bk h fun Wq Rt h => ⟨ay Rt, Wq, az Rt, (.d (bk h fun Wr Ru h => ⟨ay Ru, Wr, az Ru, (bk h fun Ws Rv h => ⟨aA Rv, _, (ax Rv).trans (ae.au Ws), (bk h fun adE aeA h => (aS (mb _ _ aeA) (bk h fun Wt Rw h => ⟨ay Rw, Wt, az Rw, ?_⟩)))⟩)⟩))⟩)))⟩
 exact asN
 refine .d (bk h fun Wu Rx h => ⟨ay Rx, Wu, az Rx, (bk h fun Wv Ry h => ⟨aA Ry, _, (ax Ry).trans (ae.au Wv), (bk h fun adF aeB h => (aS (mb _ _ aeB) (bk h fun Ww Rz h => ⟨ay Rz, Ww, az Rz, ?_⟩)))⟩)⟩)
 exact asN
 refine .f (.f (.f (.f (.f (.f (.f (.f (.f (.d (bk h fun Wx RA h => ⟨ay RA, Wx, az RA, (bk h fun Wy RB h => ⟨aA RB, _, (ax RB).trans (ae.au Wy), (bk h fun adG aeC h => ?_)⟩)⟩))))))))))
 refine aS (mb _ _ aeC) (bk h fun Wz RC h => ⟨ay RC, Wz, az RC, ?_⟩)
 exact asN
 exact ct ⟨si h, rfl, rfl⟩ (tk [0] ⟨.p, .l, ⟨⟩⟩ ⟨(cF rfl), ⟨⟩⟩)
 rintro _ _ ⟨rfl, rfl, rfl⟩
 replace h := lf
 refine .d (.float [(0, true), (1, true), (2, true), (3, false), (4, true), (5, true)] atD ?_)
 exact ⟨rfl, ⟨rfl, _, rfl, (bk h fun adH aeD h => (aS (Ar _ _ _ aeD) ⟨rfl, ⟨rfl, (bk h fun WA RD h => ⟨ay RD, WA, az RD, (eS h)⟩)⟩⟩))⟩⟩
 intro _ _ _ _ _ nX mb aeE xx aeF a0 r h
 refine gd Tryz.func39 ?_
 refine .d (.d ⟨rfl, ⟨rfl, _, rfl, (.d ?_)⟩⟩)
 obtain ⟨aod, aeG, aeH⟩ := bd h
 replace h := aeG
 refine .cut (fun σ η => ∃ ub, ub = aod ∧ σ = [(1, .aM 0 0 0 0), (3, sl 4 ae.cells a0.ah), (4, .str ub)] ∧ η = [.row 0 4 1 29 (fun _ => a0.lit)]) ?_ ?_
 refine .d (sD h (fun aeI h => ?_) (fun aeI h => ?_))
 refine .t (bk h fun uT RE h => ⟨aA RE, _, (ax RE).trans (ae.au uT), (.t (.t (bk h fun wO aeJ h => (aS (uX aeJ) (.t (sV h (fun aeK h => ?_) (fun aeK h => ?_)))))))⟩)
 exact bk h fun uU RF h => ⟨aA RF, _, (ax RF).trans (ae.au uU), (bk h fun wP aeL h => (aS (nX _ _ _ aeL) (ct ⟨_, si h, rfl, rfl⟩ (tk [0] ⟨.p, .l, .s, ⟨⟩⟩ ⟨(cF rfl), ⟨⟩⟩))))⟩
 exact ati
 exact .f (.f (.f (.f (.f (ct ⟨_, si h, rfl, rfl⟩ (tk [0] ⟨.p, .l, .s, ⟨⟩⟩ ⟨(cF rfl), ⟨⟩⟩))))))
 rintro _ _ ⟨ub, rfl, rfl, rfl⟩
 replace h := aeH
 obtain ⟨XC, aeM, iM⟩ := bd h
 replace h := aeM
 refine .cut (fun σ η => .inl () = XC ∧ σ = [(1, .aM 0 0 0 0)] ∧ η = [.row 0 4 1 29 (fun _ => a0.lit)]) ?_ ?_
 refine .d ⟨rfl, ⟨rfl, _, rfl, (.d (sE h (fun aeN h => ?_) (fun aeN h => ?_)))⟩⟩
 refine .d ⟨rfl, ⟨rfl, _, rfl, (bk h fun WH RG h => ⟨ay RG, WH, az RG, (bk h fun WI RH h => ⟨ay RH, WI, az RH, ?_⟩)⟩)⟩⟩
 exact asO
 refine .d (sE h (fun I9 h => ?_) (fun I9 h => ?_))
 refine .d (bk h fun WJ RI h => ⟨ay RI, WJ, az RI, (bk h fun WK RJ h => ⟨ay RJ, WK, az RJ, ?_⟩)⟩)
 exact asO
 refine .d (sE h (fun aeO h => ?_) (fun aeO h => ?_))
 refine .d (bk h fun WL RL h => ⟨ay RL, WL, az RL, ?_⟩)
 exact asO
 refine .d (sE h (fun aeP h => ?_) (fun aeP h => ?_))
 refine .d (bk h fun WM RM h => ⟨ay RM, WM, az RM, (bk h fun WN RN h => ⟨ay RN, WN, az RN, (bk h fun Ce Ax h => ⟨aA Ax, _, (ax Ax).trans (ae.au Ce), (bk h fun nz Ay h => (aS (mb _ _ Ay) (bk h fun NM RO h => ⟨ay RO, NM, az RO, (.d (.d (sE h (fun Ja h => ?_) (fun Ja h => ?_))))⟩)))⟩)⟩)⟩)
 refine bk h fun WO Az h => ⟨ay Az, WO, az Az, (bk h fun WQ RP h => ⟨aA RP, _, (ax RP).trans (ae.au WQ), (bk h fun adJ aeQ h => (aS (mb _ _ aeQ) (bk h fun WR RQ h => ⟨ay RQ, WR, az RQ, (.d ?_)⟩)))⟩)⟩
 exact asO
 refine .d ?_
 exact asO
 refine .d (sE h (fun aeR h => ?_) (fun aeR h => ?_))
 refine .d (bk h fun WS RR h => ⟨ay RR, WS, az RR, (bk h fun WT RS h => ⟨ay RS, WT, az RS, (bk h fun WU RT h => ⟨aA RT, _, (ax RT).trans (ae.au WU), (bk h fun adK aeS h => (aS (mb _ _ aeS) (bk h fun WV Aj h => ⟨ay Aj, WV, az Aj, ?_⟩)))⟩)⟩)⟩)
 exact asO
 refine .d (sE h (fun Im h => ?_) (fun Im h => ?_))
 refine .d (bk h fun WW Ak h => ⟨ay Ak, WW, az Ak, (bk h fun WX RU h => ⟨ay RU, WX, az RU, (bk h fun WY RV h => ⟨aA RV, _, (ax RV).trans (ae.au WY), (bk h fun NN RW h => ⟨ay RW, NN, az RW, (.d (.d (sE h (fun aeT h => ?_) (fun aeT h => ?_))))⟩)⟩)⟩)⟩)
 refine bk h fun WZ RZ h => ⟨ay RZ, WZ, az RZ, (bk h fun qm AA h => ⟨aA AA, _, (ax AA).trans (ae.au qm), (bk h fun W0 R2 h => ⟨ay R2, W0, az R2, (.d (bk h fun W1 R3 h => ⟨ay R3, W1, az R3, (bk h fun W2 R4 h => ⟨aA R4, _, (ax R4).trans (ae.au W2), (bk h fun adL aeU h => (aS (mb _ _ aeU) (bk h fun W3 R5 h => ⟨ay R5, W3, az R5, ?_⟩)))⟩)⟩))⟩)⟩)⟩
 exact asO
 refine .d (bk h fun W4 R6 h => ⟨ay R6, W4, az R6, (bk h fun W5 R7 h => ⟨aA R7, _, (ax R7).trans (ae.au W5), (bk h fun adM aeV h => (aS (mb _ _ aeV) (bk h fun W6 R8 h => ⟨ay R8, W6, az R8, ?_⟩)))⟩)⟩)
 exact asO
 refine .d (sE h (fun aeW h => ?_) (fun aeW h => ?_))
 refine .d ?_
 exact asO
 refine .d (sE h (fun aeX h => ?_) (fun aeX h => ?_))
 refine .d ?_
 exact asO
 refine .d (sE h (fun aeY h => ?_) (fun aeY h => ?_))
 refine .d (.d (sE h (fun Jb h => ?_) (fun Jb h => ?_)))
 refine .d ?_
 exact asO
 refine .d (bk h fun W7 AB h => ⟨ay AB, W7, az AB, (bk h fun W8 R9 h => ⟨ay R9, W8, az R9, ?_⟩)⟩)
 exact asO
 refine .d (sE h (fun aeZ h => ?_) (fun aeZ h => ?_))
 refine .d ⟨rfl, ⟨rfl, _, rfl, (bk h fun W9 Sa h => ⟨ay Sa, W9, az Sa, (bk h fun Xa Sb h => ⟨ay Sb, Xa, az Sb, ?_⟩)⟩)⟩⟩
 exact asO
 refine .d (sE h (fun Jc h => ?_) (fun Jc h => ?_))
 refine .d (bk h fun Xb Sd h => ⟨aA Sd, _, (ax Sd).trans (ae.au Xb), (bk h fun adN ae0 h => (aS (nX _ _ _ ae0) (bk h fun Xc Se h => ⟨ay Se, Xc, az Se, (bk h fun Xd xy h => ⟨ay xy, Xd, az xy, ?_⟩)⟩)))⟩)
 exact asO
 refine .d (sE h (fun ae1 h => ?_) (fun ae1 h => ?_))
 refine .d (bk h fun Xe Sf h => ⟨ay Sf, Xe, az Sf, (bk h fun Xf xz h => ⟨ay xz, Xf, az xz, ?_⟩)⟩)
 exact asO
 refine .d (sE h (fun ae2 h => ?_) (fun ae2 h => ?_))
 refine .d (.d (sE h (fun ae3 h => ?_) (fun ae3 h => ?_)))
 refine .d (.float [(0, true), (1, true), (2, true), (3, true), (4, true), (5, true), (6, true), (7, true), (8, true), (9, false), (10, true), (11, true), (12, true)] atD ?_)
 refine bk h fun Xg Sg h => ⟨aA Sg, _, (ax Sg).trans (ae.au Xg), (bk h fun Xh AD h => ⟨ay AD, Xh, az AD, (bk h fun Xi Sh h => ⟨ay Sh, Xi, az Sh, (bk h fun Xj Si h => ⟨aA Si, _, (ax Si).trans (ae.au Xj), (bk h fun adO ae4 h => (aS (nX _ _ _ ae4) (bk h fun Xk tD h => ⟨ay tD, Xk, az tD, (bk h fun Xl Sj h => ⟨ay Sj, Xl, az Sj, ?_⟩)⟩)))⟩)⟩)⟩)⟩
 exact asO
 refine .d (bk h fun Xm Sk h => ⟨ay Sk, Xm, az Sk, (bk h fun Xn AE h => ⟨ay AE, Xn, az AE, ?_⟩)⟩)
 exact asO
 refine .d (sE h (fun ae5 h => ?_) (fun ae5 h => ?_))
 refine .d ⟨rfl, ⟨rfl, _, rfl, (bk h fun adP ae6 h => (aS (oH ae6) (bk h fun Xo Sl h => ⟨ay Sl, Xo, az Sl, (bk h fun Xp AF h => ⟨ay AF, Xp, az AF, ?_⟩)⟩)))⟩⟩
 exact asO
 refine .d (sE h (fun Jd h => ?_) (fun Jd h => ?_))
 refine .d (bk h fun adQ ae7 h => (aS (xx _ _ ae7) (bk h fun Xq Sm h => ⟨ay Sm, Xq, az Sm, (bk h fun Xr Sn h => ⟨ay Sn, Xr, az Sn, ?_⟩)⟩)))
 exact asO
 refine .d (sE h (fun ae8 h => ?_) (fun ae8 h => ?_))
 refine .d (bk h fun Xs So h => ⟨aA So, _, (ax So).trans (ae.au Xs), (bk h fun IG Je h => (aS (mb _ _ Je) (bk h fun NO Sp h => ⟨ay Sp, NO, az Sp, ?_⟩)))⟩)
 obtain ⟨Yp, ae9, afa⟩ := bd h
 replace h := ae9
 refine .cut (fun σ η => ∃ II, II = Yp ∧ σ = [(7, .str II)] ∧ η = []) ?_ ?_
 refine .d ?_
 have afb := aeF _ _ _ _ h
 refine le (qp (motive := fun afc jh iB afd => a0 = afc → Yp = afd → aG _ _ [(3, sl 4 ae.cells a0.ah), (7, .str jh), (8, .int .i64 iB)] []) ?_ a0 NO 1 Yp afb rfl rfl) (tk [] ⟨.l, .s, .i, ⟨⟩⟩ ⟨⟩)
 intro _ afe _ _ afc jh iB afd h aff  NS afg
 subst NS
 subst afg
 refine aG.round (.d (.d (sD h (fun afh h => ?_) (fun afh h => ?_))))
 exact .d (bk h fun uW AG h => ⟨aA AG, _, (ax AG).trans (ae.au uW), (bk h fun uc Jf h => (aS (afe _ _ Jf) (bk h fun Ck Sq h => ⟨ay Sq, Ck, az Sq, (lg (aff _ _ _ _ h rfl rfl) (tk [] ⟨.l, .s, .i, ⟨⟩⟩ ⟨⟩))⟩)))⟩)
 exact atk
 rintro _ _ ⟨II, rfl, rfl, rfl⟩
 replace h := afa
 refine .d ?_
 exact asO
 refine .d (sE h (fun afi h => ?_) (fun afi h => ?_))
 refine .d (.float [(0, true), (1, true), (2, true), (3, true), (4, true), (5, true), (6, true), (7, true), (8, true), (9, true), (10, true), (11, true), (12, true), (13, false), (14, true), (15, true)] atD ?_)
 refine ⟨rfl, ⟨rfl, _, rfl, (bk h fun Xt Sr h => ⟨ay Sr, Xt, az Sr, (bk h fun Xu Ss h => ⟨ay Ss, Xu, az Ss, (bk h fun Xv St h => ⟨aA St, _, (ax St).trans (ae.au Xv), (bk h fun Xw Su h => ⟨ay Su, Xw, az Su, (bk h fun Xx Sv h => ⟨ay Sv, Xx, az Sv, (bk h fun Xy Sw h => ⟨aA Sw, _, (ax Sw).trans (ae.au Xy), (bk h fun adR afj h => ?_)⟩)⟩)⟩)⟩)⟩)⟩)⟩⟩
 refine aS (mb _ _ afj) ⟨rfl, ⟨rfl, (bk h fun Xz Sx h => ⟨ay Sx, Xz, az Sx, ?_⟩)⟩⟩
 exact asO
 refine .d (sE h (fun afk h => ?_) (fun afk h => ?_))
 refine .d (bk h fun XA Sy h => ⟨aA Sy, _, (ax Sy).trans (ae.au XA), (bk h fun adS afl h => (aS (mb _ _ afl) (bk h fun XB Sz h => ⟨ay Sz, XB, az Sz, ?_⟩)))⟩)
 exact asO
 exact ct ⟨si h, rfl, rfl⟩ (tk [0] ⟨.p, ⟨⟩⟩ ⟨(cF rfl), ⟨⟩⟩)
 rintro _ _ ⟨rfl, rfl, rfl⟩
 replace h := iM
 exact .d ⟨rfl, _, rfl, (bk h fun adT afm h => (aS (aeE _ _ afm) (eS h)))⟩
 intro _ _ _ xu mb xx a0 r h
 refine gd Tryz.func84 ?_
 refine .d (.d ⟨rfl, ⟨rfl, _, rfl, (.d ?_)⟩⟩)
 obtain ⟨aoe, afn, afo⟩ := bd h
 replace h := afn
 refine .cut (fun σ η => ∃ ER, ER = aoe ∧ σ = [(1, .aM 0 0 0 0), (3, sl 4 ae.cells a0.ah), (4, .str ER)] ∧ η = [.row 0 4 1 29 (fun _ => a0.lit)]) ?_ ?_
 refine .d ⟨rfl, ⟨rfl, _, rfl, (sE h (fun afp h => ?_) (fun afp h => ?_))⟩⟩
 exact ati
 exact ati
 rintro _ _ ⟨ER, rfl, rfl, rfl⟩
 replace h := afo
 obtain ⟨aof, afq, afr⟩ := bd h
 replace h := afq
 refine .cut (fun σ η => ∃ Cf, Cf = aof ∧ σ = [(1, .aM 0 0 0 0), (3, sl 4 ae.cells a0.ah), (4, .str Cf)] ∧ η = [.row 0 4 1 29 (fun _ => a0.lit)]) ?_ ?_
 refine .d ⟨rfl, ⟨rfl, _, rfl, (sE h (fun afs h => ?_) (fun afs h => ?_))⟩⟩
 exact bk h fun XD SA h => ⟨ay SA, XD, az SA, (ct ⟨_, si h, rfl, rfl⟩ (tk [0] ⟨.p, .l, .s, ⟨⟩⟩ ⟨(cF rfl), ⟨⟩⟩))⟩
 exact ati
 rintro _ _ ⟨Cf, rfl, rfl, rfl⟩
 replace h := afr
 refine .d (.d ⟨rfl, ⟨rfl, _, rfl, ?_⟩⟩)
 obtain ⟨aog, aft, afu⟩ := bd h
 replace h := aft
 refine .cut (fun σ η => ∃ IK, IK = aog ∧ σ = [(1, .aM 0 0 0 0), (3, sl 4 ae.cells a0.ah), (4, .str Cf), (18, .int .i64 a0.ai), (19, .bool IK)] ∧ η = [.row 0 4 1 29 (fun _ => a0.lit)]) ?_ ?_
 refine .d (sE h (fun afv h => ?_) (fun afv h => ?_))
 exact ct ⟨_, si h, rfl, rfl⟩ (tk [0] ⟨.p, .l, .s, .i, .b, ⟨⟩⟩ ⟨(cF rfl), ⟨⟩⟩)
 exact ct ⟨_, si h, rfl, rfl⟩ (tk [0] ⟨.p, .l, .s, .i, .b, ⟨⟩⟩ ⟨(cF rfl), ⟨⟩⟩)
 rintro _ _ ⟨IK, rfl, rfl, rfl⟩
 replace h := afu
 refine sV h (fun afw h => ?_) (fun afw h => ?_)
 refine .d (.float [(0, true), (1, true), (2, true), (3, true), (4, true), (5, true), (9, true), (10, true), (11, true), (12, true), (13, true), (14, true), (6, false), (7, true), (8, true), (15, false), (16, true), (17, true)] atD ?_)
 refine bk h fun XE SB h => ⟨ay SB, XE, az SB, ⟨rfl, ⟨rfl, _, rfl, (bk h fun XF SC h => ⟨ay SC, XF, az SC, (bk h fun XG SD h => ⟨aA SD, _, (ax SD).trans (ae.au XG), (bk h fun adU afx h => (aS (lA afx) ⟨rfl, ⟨rfl, (bk h fun XH SE h => ⟨ay SE, XH, az SE, (bk h fun XI SF h => ?_)⟩)⟩⟩))⟩)⟩)⟩⟩⟩
 exact ⟨ay SF, XI, az SF, (bk h fun adV afy h => (aS (mb _ _ afy) ⟨rfl, ⟨rfl, (bk h fun XJ SG h => ⟨ay SG, XJ, az SG, (eS h)⟩)⟩⟩))⟩
 refine .d (sE h (fun afz h => ?_) (fun afz h => ?_))
 exact .d ⟨rfl, ⟨rfl, _, rfl, (bk h fun XK SH h => ⟨ay SH, XK, az SH, (bk h fun XL SI h => ⟨ay SI, XL, az SI, (eS h)⟩)⟩)⟩⟩
 refine .d (sE h (fun afA h => ?_) (fun afA h => ?_))
 refine .d (.float [(0, true), (1, true), (2, true), (3, true), (4, true), (5, true), (6, true), (7, true), (8, true), (9, false), (10, true), (11, true), (12, true)] atD ?_)
 refine bk h fun XM SJ h => ⟨ay SJ, XM, az SJ, ⟨rfl, ⟨rfl, _, rfl, (bk h fun XN SK h => ⟨ay SK, XN, az SK, (bk h fun XO SL h => ⟨ay SL, XO, az SL, (bk h fun XP SM h => ⟨aA SM, _, (ax SM).trans (ae.au XP), (bk h fun adW afB h => (aS (xu _ _ afB) ⟨rfl, ⟨rfl, (bk h fun XR SN h => ?_)⟩⟩))⟩)⟩)⟩)⟩⟩⟩
 exact ⟨ay SN, XR, az SN, (bk h fun XS SO h => ⟨ay SO, XS, az SO, (eS h)⟩)⟩
 refine .d ⟨rfl, ⟨rfl, _, rfl, (bk h fun XT SP h => ⟨ay SP, XT, az SP, (.d (.d ⟨rfl, ⟨rfl, _, rfl, (sE h (fun afC h => ?_) (fun afC h => ?_))⟩⟩))⟩)⟩⟩
 refine .d ⟨rfl, ⟨rfl, _, rfl, (bk h fun IL SQ h => ⟨ay SQ, IL, az SQ, (.d (sD h (fun afD h => ?_) (fun afD h => ?_)))⟩)⟩⟩
 refine .t (bk h fun XU SR h => ⟨aA SR, _, (ax SR).trans (ae.au XU), (.t (.t (.t (.t (sE h (fun afE h => ?_) (fun afE h => ?_))))))⟩)
 refine bk h fun XV SS h => ⟨ay SS, XV, az SS, (bk h fun XW SU h => ⟨aA SU, _, (ax SU).trans (ae.au XW), (bk h fun XX SV h => ⟨ay SV, XX, az SV, (.d (bk h fun XY SW h => ⟨ay SW, XY, az SW, (bk h fun adX afF h => (aS (xx _ _ afF) (bk h fun XZ SX h => ⟨ay SX, XZ, az SX, (bk h fun X0 SY h => ⟨ay SY, X0, az SY, ?_⟩)⟩)))⟩))⟩)⟩)⟩
 exact eS h
 exact .d (bk h fun X1 AH h => ⟨ay AH, X1, az AH, (bk h fun yE Jg h => (aS (xx _ _ Jg) (bk h fun X2 SZ h => ⟨ay SZ, X2, az SZ, (bk h fun X3 S4 h => ⟨ay S4, X3, az S4, (eS h)⟩)⟩)))⟩)
 refine .f (.f (.f (.f (.f (.f (.d (bk h fun X4 S5 h => ⟨ay S5, X4, az S5, (bk h fun adY afG h => (aS (xx _ _ afG) (bk h fun X5 S6 h => ⟨ay S6, X5, az S6, (bk h fun X6 S7 h => ⟨ay S7, X6, az S7, ?_⟩)⟩)))⟩)))))))
 exact eS h
 exact .d (bk h fun X7 S8 h => ⟨ay S8, X7, az S8, (bk h fun adZ afH h => (aS (xx _ _ afH) (bk h fun X8 S9 h => ⟨ay S9, X8, az S9, (bk h fun X9 Ta h => ⟨ay Ta, X9, az Ta, (eS h)⟩)⟩)))⟩)
 intro _ afI a0 r h
 refine gd Tryz.func47 ?_
 refine .d (.d ?_)
 obtain ⟨Yq, afJ, afK⟩ := bd h
 replace h := afJ
 refine .cut (fun σ η => ∃ IJ, IJ = Yq ∧ σ = [(3, .str IJ)] ∧ η = []) ?_ ?_
 refine .d ?_
 have afL := afI _ _ _ _ h
 refine le (qq (motive := fun afM iC gm afN => a0 = afM → Yq = afN → aG _ _ [(0, sl 4 ae.cells a0), (3, .str iC), (4, .int .i64 gm)] []) ?_ a0 [] 0 Yq afL rfl rfl) (tk [] ⟨.l, .s, .i, ⟨⟩⟩ ⟨⟩)
 intro _ afO _ _ afM iC gm afN h Tb  NT afP
 subst NT
 subst afP
 refine aG.round (.d (.d (sD h (fun afQ h => ?_) (fun afQ h => ?_))))
 refine .d (.d (bk h fun Cl Tc h => ⟨aA Tc, _, (ax Tc).trans (ae.au Cl), (sN h (fun afR h => ?_) (fun afR h => ?_))⟩))
 exact bk h fun Cm Td h => ⟨aA Td, _, (ax Td).trans (ae.au Cm), (bk h fun ET afS h => (aS (afO _ _ afS) (bk h fun Cn Te h => ⟨ay Te, Cn, az Te, (bk h fun Co Tf h => ⟨ay Tf, Co, az Tf, (lg (Tb _ _ _ _ h rfl rfl) (tk [] ⟨.l, .s, .i, ⟨⟩⟩ ⟨⟩))⟩)⟩)))⟩
 exact lg (Tb _ _ _ _ h rfl rfl) (tk [] ⟨.l, .s, .i, ⟨⟩⟩ ⟨⟩)
 exact atk
 rintro _ _ ⟨IJ, rfl, rfl, rfl⟩
 replace h := afK
 exact .d (eS h)
 intro F0 F1 lu lv a0 iC gm o h
 exact .mk F0 lu F1 lv a0 iC gm o h
 intro F0 F1 lu lv a0 jh iB o h
 exact .mk F0 lu F1 lv a0 jh iB o h
 intro _ afT a0 a1 r h
 refine gd Tryz.func90 ?_
 refine .d (.d ?_)
 obtain ⟨Yr, afU, afV⟩ := bd h
 replace h := afU
 refine .cut (fun σ η => ∃ IF, IF = Yr ∧ σ = [(5, .str IF)] ∧ η = []) ?_ ?_
 refine .d ?_
 have afW := afT _ _ _ _ _ h
 refine le (qo (motive := fun afX afY iA fu afZ => a0 = afX → a1 = afY → Yr = afZ → aG _ _ [(0, sl 4 ae.cells a0), (1, .int .i64 a1), (5, .str iA), (6, .int .i64 fu)] []) ?_ a0 a1 [] a1 Yr afW rfl rfl rfl) (tk [] ⟨.l, .i, .s, .i, ⟨⟩⟩ ⟨⟩)
 intro _ Tg _ _ afX afY iA fu afZ h Th  NU NV af0
 subst NU
 subst NV
 subst af0
 refine aG.round (.d (.d (sD h (fun Jh h => ?_) (fun Jh h => ?_))))
 refine .d (.d (.d (sD h (fun af1 h => ?_) (fun af1 h => ?_))))
 exact bk h fun Cg Ti h => ⟨ay Ti, Cg, az Ti, (bk h fun uV AI h => ⟨aA AI, _, (ax AI).trans (ae.au uV), (bk h fun yF Ji h => (aS (Tg _ _ _ Ji) (bk h fun Ch Tj h => ⟨ay Tj, Ch, az Tj, (lg (Th _ _ _ _ _ h rfl rfl rfl) (tk [] ⟨.l, .i, .s, .i, ⟨⟩⟩ ⟨⟩))⟩)))⟩)⟩
 exact bk h fun Ci Tk h => ⟨aA Tk, _, (ax Tk).trans (ae.au Ci), (bk h fun ES af2 h => (aS (Tg _ _ _ af2) (bk h fun Cj Tl h => ⟨ay Tl, Cj, az Tl, (lg (Th _ _ _ _ _ h rfl rfl rfl) (tk [] ⟨.l, .i, .s, .i, ⟨⟩⟩ ⟨⟩))⟩)))⟩
 exact atk
 rintro _ _ ⟨IF, rfl, rfl, rfl⟩
 replace h := afV
 exact .d (bk h fun WB Tm h => ⟨ay Tm, WB, az Tm, (bk h fun WC Tn h => ⟨ay Tn, WC, az Tn, (eS h)⟩)⟩)
 intro F0 F1 lu lv a0 a1 iA fu o h
 exact .mk F0 lu F1 lv a0 a1 iA fu o h
 intro _ nX a0 a1 a2 a3 r h
 refine gd Tryz.func87 ?_
 refine .d (.d (.float [(0, true), (1, true), (2, true), (3, true), (4, true), (6, true), (8, true), (9, true), (10, true), (11, true), (12, true), (5, false), (7, true), (13, false), (14, true), (15, true)] atD ?_))
 refine ⟨rfl, ⟨rfl, _, rfl, (bk h fun WD To h => ⟨aA To, _, (ax To).trans (ae.au WD), ⟨rfl, ⟨rfl, _, rfl, (bk h fun B7 Ag h => ⟨aA Ag, _, (ax Ag).trans (ae.au B7), (bk h fun Hq Ia h => (aS (nX _ _ _ Ia) ⟨rfl, ⟨rfl, (bk h fun WE Tp h => ⟨ay Tp, WE, az Tp, (bk h fun adI af3 h => ?_)⟩)⟩⟩))⟩)⟩⟩⟩)⟩⟩
 exact aS (nX _ _ _ af3) (bk h fun WG xq h => ⟨ay xq, WG, az xq, (eS h)⟩)
 intro F0 F1 lu lv a0 oz ld o h
 exact .mk F0 lu F1 lv a0 oz ld o h
theorem yH {a0 : ae} {r : ar} (h : dR a0 = some r) : ACall Tryz.prog 45 [.agg a0.lit] [] (fun res h => res = .str r ∧ h = []) := yG.2.1 a0 r h
def jo (a0 : ae) : Option (ar) :=
 lz a0 >>= fun v1 =>
 (if v1 = true then
 dR a0 >>= fun v4 =>
 some v4
 else
 some [])
theorem uY {a0 : ae} {r : ar} (h : jo a0 = some r) : ACall Tryz.prog 15 [.agg a0.lit] [] (fun res h => res = .str r ∧ h = []) := by
 refine gd Tryz.func15 ?_
 unfold jo at h
 refine .d (.d (.d ⟨rfl, _, rfl, (bk h fun v1 lx h => (aS (Al lx) (l8 h (fun ow h => ?_) (fun ow h => ?_))))⟩))
 exact .d (eS h)
 exact .d ⟨rfl, _, rfl, (bk h fun v4 tV h => (aS (yH tV) (eS h)))⟩
theorem ACall.ext {P : Program} {f : FuncId} {args : List PV} {r : PV} (ud : af4 P f)
  (H : ∀ (w : World) (vs : Array Value) (S : Nat → Prop), Nn S w → (∀ b, S b → b < w.heap.size) → vs.size = args.length → (∀ (j : Nat) (pv : PV), args[j]? = some pv → ∃ v, vs[j]? = some v ∧ aE S w pv v) →
   Calls P f vs w (fun e w' => ∃ v, e = .returned v ∧ (∀ μ h S w, aY μ h S w r v) ∧ Below w.heap.size w w'))
  (hp : args.all rp = true) (h : List ak) : ACall P f args h (fun res h' => res = r ∧ h' = h) := by
 refine ⟨ud, fun w vs μ S hH hM fv ha => (H w vs S hM.known hM.slt fv (fun j pv hj => ?_)).mono ?_⟩
 ·obtain ⟨v, h1, h2⟩ := ha j pv hj
  have h3 := aqW.1 hp pv (arh hj)
  cases pv <;> first | exact ⟨v, h1, h2⟩ | (simp [rp] at h3)
 ·rintro e w' ⟨v, rfl, hv, hb⟩
  have ag : bF w w' := ⟨hb.block, hb.size, hb.os, hb.tape, hb.output⟩
  exact ⟨v, r, h, μ, S, rfl, ⟨rfl, rfl⟩, hv _ _ _ _, hH.agree ag hM, hM.agree ag, Fr.rq ag⟩
theorem Jj {vs : Array Value} {a : Value} (hs : vs.size = 1) (h0 : vs[0]? = some a) : vs = #[a] := by
 obtain ⟨l⟩ := vs
 rcases l with _ | ⟨b, _ | ⟨c, l⟩⟩ <;> simp at hs
 simp at h0; subst h0; rfl
theorem Tq {vs : Array Value} {a b : Value} (hs : vs.size = 2) (h0 : vs[0]? = some a) (h1 : vs[1]? = some b) : vs = #[a, b] := by
 obtain ⟨l⟩ := vs
 rcases l with _ | ⟨x, _ | ⟨y, _ | ⟨z, l⟩⟩⟩ <;> simp at hs
 simp at h0 h1; subst h0; subst h1; rfl
theorem Ys {P : Program} {w : World} {n : String} {g : Nat} {cs : Array Value} {t : TypeId} {z : Nat × Nat} (hg : P.globalNamed n = some g) (h : w.heap[g]? = some (.cells cs t z)) : w.var? P n = some cs := by
 unfold World.var?
 rw [hg]
 simp [h]
theorem Yt : Tryz.prog.globalNamed "internal/strconv.uint64pow10" = some 1 := by kernel_rfl
theorem Jk : Lib.pow10Tab = AJ := by decide
theorem NW {S : Nat → Prop} {w : World} (h : Nn S w) : Lib.TabIs Tryz.prog w "internal/strconv.uint64pow10" .u64 Lib.pow10Tab := by
 obtain ⟨_, t, z, hh⟩ := h.1 (1, _) (by simp [yI]; rfl)
 unfold Lib.TabIs
 rw [Ys Yt hh, Jk]
theorem DJ {S : Nat → Prop} {w : World} (h : Nn S w) : ∃ m, w.cell? ⟨0, 0, none⟩ = some (.int .i64 m) := by
 obtain ⟨_, m, t, z, hh⟩ := h.2.2 0 (by simp [yJ])
 exact ⟨m, by simp [World.cell?, hh]⟩
theorem Cq (w : World) (k : Nat) (os : Array Obj) : Below w.heap.size w (Sort.grow (w.drewN k) os) := by
 refine ⟨rfl, rfl, rfl, ?_, fun i hi => ?_⟩
 ·show w.heap.size ≤ (w.heap ++ os).size
  simp
 ·show (w.heap ++ os)[i]? = w.heap[i]?
  rw [arI hi]
theorem NX (n : Int) (h0 : -9223372036854775808 ≤ n) (h1 : n ≤ 9223372036854775807) (h : List ak) : ACall Tryz.prog 201 [.int .i64 n] h (fun res h' => res = .str (Lib.itoa n) ∧ h' = h) := by
 refine ACall.ext ⟨_, _, Tryz.func201, rfl, by kernel_rfl⟩ (fun w vs S ha hS fv hj => ?_) rfl h
 obtain ⟨v, hv, hp⟩ := hj 0 _ rfl
 cases hp
 obtain rfl := Jj fv hv
 refine (Tryz.strconv_Itoa n h0 h1 w (NW ha)).mono ?_
 rintro e w' ⟨rfl, k, os, rfl⟩
 exact ⟨_, rfl, fun _ _ _ _ => .str _, Cq _ _ _⟩
theorem AK (s sub : List UInt8) (hs : s.length < 4294967281) (h : List ak) : ACall Tryz.prog 136 [.str s, .str sub] h (fun res h' => res = .bool (decide (0 ≤ Lib.index s sub)) ∧ h' = h) := by
 refine ACall.ext ⟨_, _, Tryz.func136, rfl, by kernel_rfl⟩ (fun w vs S ha hS fv hj => ?_) rfl h
 obtain ⟨v, hv, hp⟩ := hj 0 _ rfl
 cases hp
 obtain ⟨v', hv', ue⟩ := hj 1 _ rfl
 cases ue
 obtain rfl := Tq fv hv hv'
 obtain ⟨m, hm⟩ := DJ ha
 refine (Tryz.strings_Contains ⟨⟨s⟩⟩ ⟨⟨sub⟩⟩ m w hs hm).mono ?_
 rintro e w' ⟨rfl, rfl⟩
 exact ⟨_, rfl, fun _ _ _ _ => .bool _, Below.refl _ _⟩
theorem Yu (s sep : List UInt8) (hs : s.length < 4294967281) (h : List ak) : ACall Tryz.prog 198 [.str s, .str sep] h (fun res h' => res = .aU [.str (Lib.cut s sep).1, .str (Lib.cut s sep).2.1, .bool (Lib.cut s sep).2.2] ∧ h' = h) := by
 refine ACall.ext ⟨_, _, Tryz.func198, rfl, by kernel_rfl⟩ (fun w vs S ha hS fv hj => ?_) rfl h
 obtain ⟨v, hv, hp⟩ := hj 0 _ rfl
 cases hp
 obtain ⟨v', hv', ue⟩ := hj 1 _ rfl
 cases ue
 obtain rfl := Tq fv hv hv'
 obtain ⟨m, hm⟩ := DJ ha
 refine (Tryz.strings_Cut ⟨⟨s⟩⟩ ⟨⟨sep⟩⟩ m w hs hm).mono ?_
 rintro e w' ⟨rfl, n, rfl⟩
 refine ⟨_, rfl, fun μ h S w' => ⟨_, rfl, rfl, fun j pv hj => ?_⟩, ?_⟩
 ·match j with
  | 0 => cases hj; exact ⟨_, rfl, .str _⟩
  | 1 => cases hj; exact ⟨_, rfl, .str _⟩
  | 2 => cases hj; exact ⟨_, rfl, .bool _⟩
  | j + 3 => simp at hj
 ·exact ⟨rfl, rfl, rfl, aqP _, fun _ _ => rfl⟩
def m73 (n : Int) : Option ar := if -9223372036854775808 ≤ n ∧ n ≤ 9223372036854775807 then some (Lib.itoa n) else none
theorem aoh {n : Int} {r : ar} (h : m73 n = some r) : ACall Tryz.prog 201 [.int .i64 n] [] (fun res h => res = .str r ∧ h = []) := by
 obtain ⟨⟨h0, h1⟩, rfl⟩ := bx h
 exact NX n h0 h1 []
def jX (s p : ar) : Option Bool := if s.length < 4294967281 then some (decide (0 ≤ Lib.index s p)) else none
theorem qs {s p : ar} {r : Bool} (h : jX s p = some r) : ACall Tryz.prog 136 [.str s, .str p] [] (fun res h => res = .bool r ∧ h = []) := by
 obtain ⟨h0, rfl⟩ := bx h
 exact AK s p h0 []
def nA (s p : ar) : Option (ar × ar × Bool) := if s.length < 4294967281 then some (Lib.cut s p) else none
theorem wU {s p : ar} {r : ar × ar × Bool} (h : nA s p = some r) : ACall Tryz.prog 198 [.str s, .str p] [] (fun res h => res = .aU [.str r.1, .str r.2.1, .bool r.2.2] ∧ h = []) := by
 obtain ⟨h0, rfl⟩ := bx h
 exact Yu s p h0 []
end Go.Am
