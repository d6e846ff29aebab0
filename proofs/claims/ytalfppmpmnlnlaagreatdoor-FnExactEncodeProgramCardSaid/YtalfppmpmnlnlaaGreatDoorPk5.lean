/- Texts of the proof, joined and shortened. -/
import Derived.Test.YtalfppmpmnlnlaaGreatDoorPk4
set_option linter.unusedVariables false
set_option linter.unusedSimpArgs false
set_option maxRecDepth 100000
namespace Go.Am
open Go Go.RowKit Go.Proofs
def oK (a0 : aR) (a1 : Int) : Option (Int) :=
 (if (ah (a1 - (a0.fS.length : Int))) < 0 then
 some (-1)
 else
 (if (ah ((ah (a1 - (a0.fS.length : Int))) - (a0.fT.length : Int))) < 0 then
 some (-1)
 else
 some (ah ((ah (a1 - (a0.fS.length : Int))) - (a0.fT.length : Int)))))
theorem H5 {a0 : aR} {a1 : Int} {r : Int} (h : oK a0 a1 = some r) : ACall Tryz.prog 129 [.agg a0.lit, .int .i64 a1] [] (fun res h => res = .int .i64 r ∧ h = []) := by
 refine cP Tryz.func129 ?_
 unfold oK at h
 refine .d (.d ⟨rfl, ⟨rfl, _, rfl, (.d (.d (sD h (fun de h => ?_) (fun de h => ?_))))⟩⟩)
 exact afK
 refine .d ⟨rfl, ⟨rfl, _, rfl, (.d (.d (sD h (fun jr h => ?_) (fun jr h => ?_))))⟩⟩
 exact afK
 exact afK
def lH (a0 : TParam) (a1 : Int) : Option (Int) :=
 (if (ah (a1 - (a0.ao.length : Int))) < 0 then
 some (-1)
 else
 some (ah (a1 - (a0.ao.length : Int))))
theorem DG {a0 : TParam} {a1 : Int} {r : Int} (h : lH a0 a1 = some r) : ACall Tryz.prog 128 [.agg a0.lit, .int .i64 a1] [] (fun res h => res = .int .i64 r ∧ h = []) := by
 refine cP Tryz.func128 ?_
 unfold lH at h
 refine .d (.d ⟨rfl, ⟨rfl, _, rfl, (.d (.d (sD h (fun de h => ?_) (fun de h => ?_))))⟩⟩)
 exact afK
 exact afK
def jG (a0 : List aR) (y6 : Int) (y7 : Int) : Option ((Int) ⊕ Int) :=
 (if y7 < (a0.length : Int) then
 idx a0 y7 >>= fun kP =>
 oK kP y6 >>= fun qd =>
 (if qd < 0 then
 some (.inr (-1))
 else
 jG a0 qd (ah (y7 + 1)))
 else
 some (.inl y6))
partial_fixpoint
def oR (a0 : List aR) (a1 : Int) : Option (Int) :=
 (if (ah (a1 - (a0.length : Int))) < 0 then
 some (-1)
 else
 ((
 jG a0 (ah (a1 - (a0.length : Int))) 0
 : Option ((Int) ⊕ Int)) >>= fun o3 => match o3 with
 | .inr r => some r
 | .inl y2 =>
 some y2
 ))
theorem FJ {a0 : List aR} {a1 : Int} {r : Int} (h : oR a0 a1 = some r) : ACall Tryz.prog 88 [sl 5 aR.cells a0, .int .i64 a1] [] (fun res h => res = .int .i64 r ∧ h = []) := by
 refine cP Tryz.func88 ?_
 unfold oR at h
 refine .d (.d (.d (.d (sD h (fun de h => ?_) (fun de h => ?_)))))
 exact afK
 obtain ⟨o3, DH, uQ⟩ := bd h
 replace h := DH
 refine .cut (fun σ η => ∃ y2, .inl y2 = o3 ∧ σ = [(1, .int .i64 y2)] ∧ η = []) ?_ ?_
 refine .d ?_
 refine le (jG.partial_correctness a0 (motive := fun y6 y7 lW => o3 = lW → az _ _ [(0, sl 5 aR.cells a0), (1, .int .i64 y6), (5, .int .i64 y7)] []) ?_ (ah (a1 - (a0.length : Int))) 0 o3 h rfl) (tk [] ⟨.l, .i, .i, ⟨⟩⟩ ⟨⟩)
 intro F9 CQ y6 y7 lW h kc
 subst kc
 refine az.round (.d (.d (sD h (fun eY h => ?_) (fun eY h => ?_))))
 refine .d (.d (bk h fun kP dT h => ⟨aI dT, _, (aF dT).trans (aR.au kP), (bk h fun qd nY h => (bO (H5 nY) (.d (sD h (fun dI h => ?_) (fun dI h => ?_)))))⟩))
 refine .d ?_
 exact afs
 exact afY
 exact afQ
 exact afn
def il (a0 : List TParam) (y6 : Int) (y7 : Int) : Option ((Int) ⊕ Int) :=
 (if y7 < (a0.length : Int) then
 idx a0 y7 >>= fun kP =>
 lH kP y6 >>= fun qd =>
 (if qd < 0 then
 some (.inr (-1))
 else
 il a0 qd (ah (y7 + 1)))
 else
 some (.inl y6))
partial_fixpoint
def kI (a0 : List TParam) (a1 : Int) : Option (Int) :=
 (if (ah (a1 - (a0.length : Int))) < 0 then
 some (-1)
 else
 ((
 il a0 (ah (a1 - (a0.length : Int))) 0
 : Option ((Int) ⊕ Int)) >>= fun o3 => match o3 with
 | .inr r => some r
 | .inl y2 =>
 some y2
 ))
theorem uR {a0 : List TParam} {a1 : Int} {r : Int} (h : kI a0 a1 = some r) : ACall Tryz.prog 86 [sl 2 TParam.cells a0, .int .i64 a1] [] (fun res h => res = .int .i64 r ∧ h = []) := by
 refine cP Tryz.func86 ?_
 unfold kI at h
 refine .d (.d (.d (.d (sD h (fun de h => ?_) (fun de h => ?_)))))
 exact afK
 obtain ⟨o3, DH, uQ⟩ := bd h
 replace h := DH
 refine .cut (fun σ η => ∃ y2, .inl y2 = o3 ∧ σ = [(1, .int .i64 y2)] ∧ η = []) ?_ ?_
 refine .d ?_
 refine le (il.partial_correctness a0 (motive := fun y6 y7 lW => o3 = lW → az _ _ [(0, sl 2 TParam.cells a0), (1, .int .i64 y6), (5, .int .i64 y7)] []) ?_ (ah (a1 - (a0.length : Int))) 0 o3 h rfl) (tk [] ⟨.l, .i, .i, ⟨⟩⟩ ⟨⟩)
 intro F9 CQ y6 y7 lW h kc
 subst kc
 refine az.round (.d (.d (sD h (fun eY h => ?_) (fun eY h => ?_))))
 refine .d (.d (bk h fun kP dT h => ⟨aI dT, _, (aF dT).trans (TParam.au kP), (bk h fun qd nY h => (bO (DG nY) (.d (sD h (fun dI h => ?_) (fun dI h => ?_)))))⟩))
 refine .d ?_
 exact afs
 exact afY
 exact afQ
 exact afn
def gz (a0 : List ba) (y6 : Int) (y7 : Int) : Option ((Int) ⊕ Int) :=
 (if y7 < (a0.length : Int) then
 idx a0 y7 >>= fun kP =>
 (if (ah (y6 - (kP.length : Int))) < 0 then
 some (.inr (-1))
 else
 gz a0 (ah (y6 - (kP.length : Int))) (ah (y7 + 1)))
 else
 some (.inl y6))
partial_fixpoint
def kZ (a0 : List ba) (a1 : Int) : Option (Int) :=
 (if (ah (a1 - (a0.length : Int))) < 0 then
 some (-1)
 else
 ((
 gz a0 (ah (a1 - (a0.length : Int))) 0
 : Option ((Int) ⊕ Int)) >>= fun o3 => match o3 with
 | .inr r => some r
 | .inl y2 =>
 some y2
 ))
theorem zZ {a0 : List ba} {a1 : Int} {r : Int} (h : kZ a0 a1 = some r) : ACall Tryz.prog 87 [sl 1 cS a0, .int .i64 a1] [] (fun res h => res = .int .i64 r ∧ h = []) := by
 refine cP Tryz.func87 ?_
 unfold kZ at h
 refine .d (.d (.d (.d (sD h (fun de h => ?_) (fun de h => ?_)))))
 exact afK
 obtain ⟨o3, DH, uQ⟩ := bd h
 replace h := DH
 refine .cut (fun σ η => ∃ y2, .inl y2 = o3 ∧ σ = [(1, .int .i64 y2)] ∧ η = []) ?_ ?_
 refine .d ?_
 refine le (gz.partial_correctness a0 (motive := fun y6 y7 HS => o3 = HS → az _ _ [(0, sl 1 cS a0), (1, .int .i64 y6), (5, .int .i64 y7)] []) ?_ (ah (a1 - (a0.length : Int))) 0 o3 h rfl) (tk [] ⟨.l, .i, .i, ⟨⟩⟩ ⟨⟩)
 intro F9 CQ y6 y7 HS h Ml
 subst Ml
 refine az.round (.d (.d (sD h (fun eY h => ?_) (fun eY h => ?_))))
 refine .d (.d (bk h fun kP dT h => ⟨aI dT, _, (aF dT).trans rfl, (.d (sD h (fun jS h => ?_) (fun jS h => ?_)))⟩))
 refine .d ?_
 exact afs
 exact afY
 exact afQ
 exact afn
def mS (a0 : aC) (a1 : Int) : Option (Int) :=
 (if (ah (a1 - (a0.ao.length : Int))) < 0 then
 some (-1)
 else
 kI a0.ak (ah (a1 - (a0.ao.length : Int))) >>= fun v2 =>
 (if v2 < 0 then
 some (-1)
 else
 kI a0.aE v2 >>= fun v5 =>
 (if v5 < 0 then
 some (-1)
 else
 kZ a0.ar v5 >>= fun v8 =>
 (if v8 < 0 then
 some (-1)
 else
 oR a0.aq v8 >>= fun v11 =>
 (if v11 < 0 then
 some (-1)
 else
 some v11)))))
theorem FK {a0 : aC} {a1 : Int} {r : Int} (h : mS a0 a1 = some r) : ACall Tryz.prog 41 [.agg a0.lit, .int .i64 a1] [] (fun res h => res = .int .i64 r ∧ h = []) := by
 refine cP Tryz.func41 ?_
 unfold mS at h
 refine .d (.d ⟨rfl, ⟨rfl, _, rfl, (.d (.d (sD h (fun de h => ?_) (fun de h => ?_))))⟩⟩)
 exact afK
 refine .d ⟨rfl, ⟨rfl, _, rfl, (bk h fun v2 DI h => (bO (uR DI) (.d (.d (sD h (fun oL h => ?_) (fun oL h => ?_))))))⟩⟩
 exact afK
 refine .d ⟨rfl, ⟨rfl, _, rfl, (bk h fun v5 DJ h => (bO (uR DJ) (.d (.d (sD h (fun pT h => ?_) (fun pT h => ?_))))))⟩⟩
 exact afK
 refine .d ⟨rfl, ⟨rfl, _, rfl, (bk h fun v8 Xo h => (bO (zZ Xo) (.d (.d (sD h (fun eY h => ?_) (fun eY h => ?_))))))⟩⟩
 exact afK
 refine .d ⟨rfl, ⟨rfl, _, rfl, (bk h fun v11 H6 h => (bO (FJ H6) (.d (.d (sD h (fun jS h => ?_) (fun jS h => ?_))))))⟩⟩
 exact afK
 exact afK
def je (a0 : List aC) (y6 : Int) (y7 : Int) : Option ((Int) ⊕ Int) :=
 (if y7 < (a0.length : Int) then
 idx a0 y7 >>= fun kP =>
 mS kP y6 >>= fun qd =>
 (if qd < 0 then
 some (.inr (-1))
 else
 je a0 qd (ah (y7 + 1)))
 else
 some (.inl y6))
partial_fixpoint
def nu (a0 : List aC) (a1 : Int) : Option (Int) :=
 (if (ah (a1 - (a0.length : Int))) < 0 then
 some (-1)
 else
 ((
 je a0 (ah (a1 - (a0.length : Int))) 0
 : Option ((Int) ⊕ Int)) >>= fun o3 => match o3 with
 | .inr r => some r
 | .inl y2 =>
 some y2
 ))
theorem DK {a0 : List aC} {a1 : Int} {r : Int} (h : nu a0 a1 = some r) : ACall Tryz.prog 18 [sl 6 aC.cells a0, .int .i64 a1] [] (fun res h => res = .int .i64 r ∧ h = []) := by
 refine cP Tryz.func18 ?_
 unfold nu at h
 refine .d (.d (.d (.d (sD h (fun de h => ?_) (fun de h => ?_)))))
 exact afK
 obtain ⟨o3, DH, uQ⟩ := bd h
 replace h := DH
 refine .cut (fun σ η => ∃ y2, .inl y2 = o3 ∧ σ = [(1, .int .i64 y2)] ∧ η = []) ?_ ?_
 refine .d ?_
 refine le (je.partial_correctness a0 (motive := fun y6 y7 lW => o3 = lW → az _ _ [(0, sl 6 aC.cells a0), (1, .int .i64 y6), (5, .int .i64 y7)] []) ?_ (ah (a1 - (a0.length : Int))) 0 o3 h rfl) (tk [] ⟨.l, .i, .i, ⟨⟩⟩ ⟨⟩)
 intro F9 CQ y6 y7 lW h kc
 subst kc
 refine az.round (.d (.d (sD h (fun eY h => ?_) (fun eY h => ?_))))
 refine .d (.d (bk h fun kP dT h => ⟨aI dT, _, (aF dT).trans (aC.au kP), (bk h fun qd nY h => (bO (FK nY) (.d (sD h (fun dI h => ?_) (fun dI h => ?_)))))⟩))
 refine .d ?_
 exact afs
 exact afY
 exact afQ
 exact afn
def qT (a0 : bJ) (a1 : Int) : Option (Int) :=
 (if (ah (a1 - (a0.bm.length : Int))) < 0 then
 some (-1)
 else
 some (ah (a1 - (a0.bm.length : Int))))
theorem H7 {a0 : bJ} {a1 : Int} {r : Int} (h : qT a0 a1 = some r) : ACall Tryz.prog 208 [.agg a0.lit, .int .i64 a1] [] (fun res h => res = .int .i64 r ∧ h = []) := by
 refine cP Tryz.func208 ?_
 unfold qT at h
 refine .d (.d ⟨rfl, ⟨rfl, _, rfl, (.d (.d (sD h (fun de h => ?_) (fun de h => ?_))))⟩⟩)
 exact afK
 exact afK
mutual
def kd (a0 : af) (a1 : Int) : Option (Int) :=
 (if (ah (a1 - (a0.bm.length : Int))) < 0 then
 some (-1)
 else
 ot a0.ai (ah (a1 - (a0.bm.length : Int))) >>= fun v2 =>
 (if v2 < 0 then
 some (-1)
 else
 some v2))
partial_fixpoint
def ot (a0 : List ae) (a1 : Int) : Option (Int) :=
 (if (ah (a1 - (a0.length : Int))) < 0 then
 some (-1)
 else
 ((
 im a0 (ah (a1 - (a0.length : Int))) 0
 : Option ((Int) ⊕ Int)) >>= fun o7 => match o7 with
 | .inr r => some r
 | .inl y6 =>
 some y6
 ))
partial_fixpoint
def qe (a0 : ae) (a1 : Int) : Option (Int) :=
 qT a0.aX a1 >>= fun v28 =>
 (if v28 < 0 then
 some (-1)
 else
 kd a0.aL v28 >>= fun v31 =>
 (if v31 < 0 then
 some (-1)
 else
 some v31))
partial_fixpoint
def im (a0 : List ae) (qf : Int) (aU : Int) : Option ((Int) ⊕ Int) :=
 (if aU < (a0.length : Int) then
 idx a0 aU >>= fun aV =>
 qe aV qf >>= fun v20 =>
 (if v20 < 0 then
 some (.inr (-1))
 else
 im a0 v20 (ah (aU + 1)))
 else
 some (.inl qf))
partial_fixpoint
end
def Mm (a0 : af) (a1 : Int) (r : Int) : Prop := ACall Tryz.prog 176 [.agg a0.lit, .int .i64 a1] [] (fun res h => res = .int .i64 r ∧ h = [])
def Mn (a0 : List ae) (a1 : Int) (r : Int) : Prop := ACall Tryz.prog 193 [sl 8 ae.cells a0, .int .i64 a1] [] (fun res h => res = .int .i64 r ∧ h = [])
def DL (a0 : ae) (a1 : Int) (r : Int) : Prop := ACall Tryz.prog 202 [.agg a0.lit, .int .i64 a1] [] (fun res h => res = .int .i64 r ∧ h = [])
inductive dW : (List ae) → Int → Int → ((Int) ⊕ Int) → Prop
 | mk (Mo : ae → Int → Option (Int)) (Xp : ∀ a0 a1 r, Mo a0 a1 = some r → DL a0 a1 r) (fD : (List ae) → Int → Int → Option ((Int) ⊕ Int)) (vg : ∀ a0 qf aU o, fD a0 qf aU = some o → dW a0 qf aU o) (a0 : List ae) (qf : Int) (aU : Int) (o : (Int) ⊕ Int) (h : (
 (if aU < (a0.length : Int) then
 idx a0 aU >>= fun aV =>
 Mo aV qf >>= fun v20 =>
 (if v20 < 0 then
 some (.inr (-1))
 else
 fD a0 v20 (ah (aU + 1)))
 else
 some (.inl qf))
 ) = some o) : dW a0 qf aU o
theorem uF {motive : (List ae) → Int → Int → ((Int) ⊕ Int) → Prop} (step : ∀ (Mo : ae → Int → Option (Int)) (Xp : ∀ a0 a1 r, Mo a0 a1 = some r → DL a0 a1 r) (fD : (List ae) → Int → Int → Option ((Int) ⊕ Int)) (vg : ∀ a0 qf aU o, fD a0 qf aU = some o → dW a0 qf aU o) (a0 : List ae) (qf : Int) (aU : Int) (o : (Int) ⊕ Int) (h : (
 (if aU < (a0.length : Int) then
 idx a0 aU >>= fun aV =>
 Mo aV qf >>= fun v20 =>
 (if v20 < 0 then
 some (.inr (-1))
 else
 fD a0 v20 (ah (aU + 1)))
 else
 some (.inl qf))
 ) = some o) (ih : ∀ a0 qf aU o, fD a0 qf aU = some o → motive a0 qf aU o), motive a0 qf aU o) : ∀ a0 qf aU o, dW a0 qf aU o → motive a0 qf aU o :=
 fun a0 qf aU o h => dW.rec (motive := fun a0 qf aU o _ => motive a0 qf aU o) step h
theorem z8 : (∀ a0 a1 r, kd a0 a1 = some r → Mm a0 a1 r) ∧ (∀ a0 a1 r, ot a0 a1 = some r → Mn a0 a1 r) ∧ (∀ a0 qf aU o, im a0 qf aU = some o → dW a0 qf aU o) ∧ (∀ a0 a1 r, qe a0 a1 = some r → DL a0 a1 r) := by
 refine kd.mutual_partial_correctness Mm Mn dW DL ?_ ?_ ?_ ?_
 intro _ Te a0 a1 r h
 refine cP Tryz.func176 ?_
 refine .d (.d ⟨rfl, ⟨rfl, _, rfl, (.d (.d (sD h (fun de h => ?_) (fun de h => ?_))))⟩⟩)
 exact afK
 refine .d ⟨rfl, ⟨rfl, _, rfl, (bk h fun v2 DI h => (bO (Te _ _ _ DI) (.d (.d (sD h (fun oL h => ?_) (fun oL h => ?_))))))⟩⟩
 exact afK
 exact afK
 intro _ aaF a0 a1 r h
 refine cP Tryz.func193 ?_
 refine .d (.d (.d (.d (sD h (fun nW h => ?_) (fun nW h => ?_)))))
 exact afK
 obtain ⟨o7, Mp, H8⟩ := bd h
 replace h := Mp
 refine .cut (fun σ η => ∃ y6, .inl y6 = o7 ∧ σ = [(1, .int .i64 y6)] ∧ η = []) ?_ ?_
 refine .d ?_
 have aaG := aaF _ _ _ _ h
 refine le (uF (motive := fun p25 qf aU J5 => a0 = p25 → o7 = J5 → az _ _ [(0, sl 8 ae.cells a0), (1, .int .i64 qf), (5, .int .i64 aU)] []) ?_ a0 (ah (a1 - (a0.length : Int))) 0 o7 aaG rfl rfl) (tk [] ⟨.l, .i, .i, ⟨⟩⟩ ⟨⟩)
 intro _ aaH _ _ p25 qf aU J5 h H9  Tf Mq
 subst Tf
 subst Mq
 refine az.round (.d (.d (sD h (fun kR h => ?_) (fun kR h => ?_))))
 refine .d (.d (bk h fun aV da h => ⟨aI da, _, (aF da).trans (ae.au aV), (bk h fun v20 xw h => (bO (aaH _ _ _ xw) (.d (sD h (fun kS h => ?_) (fun kS h => ?_)))))⟩))
 refine .d ?_
 obtain rfl := si h
 replace h := H8
 exact eI h
 exact lg (H9 _ _ _ _ h rfl rfl) (tk [] ⟨.l, .i, .i, ⟨⟩⟩ ⟨⟩)
 exact afQ
 rintro _ _ ⟨y6, rfl, rfl, rfl⟩
 replace h := H8
 exact afK
 intro F0 F1 B8 B9 a0 qf aU o h
 exact .mk F1 B9 F0 B8 a0 qf aU o h
 intro _ Tg a0 a1 r h
 refine cP Tryz.func202 ?_
 refine .d (.d ⟨rfl, ⟨rfl, _, rfl, (bk h fun v28 DM h => (bO (H7 DM) (.d (.d (sD h (fun sY h => ?_) (fun sY h => ?_))))))⟩⟩)
 exact afK
 refine .d ⟨rfl, ⟨rfl, _, rfl, (bk h fun v31 DN h => (bO (Tg _ _ _ DN) (.d (.d (sD h (fun xx h => ?_) (fun xx h => ?_))))))⟩⟩
 exact afK
 exact afK
theorem DO {a0 : af} {a1 : Int} {r : Int} (h : kd a0 a1 = some r) : ACall Tryz.prog 176 [.agg a0.lit, .int .i64 a1] [] (fun res h => res = .int .i64 r ∧ h = []) := z8.1 a0 a1 r h
def lI (a0 : aB) (a1 : Int) : Option (Int) :=
 (if (ah (a1 - (a0.ao.length : Int))) < 0 then
 some (-1)
 else
 (if (ah ((ah (a1 - (a0.ao.length : Int))) - (a0.bn.length : Int))) < 0 then
 some (-1)
 else
 kd a0.aH (ah ((ah (a1 - (a0.ao.length : Int))) - (a0.bn.length : Int))) >>= fun v3 =>
 (if v3 < 0 then
 some (-1)
 else
 some v3)))
theorem DP {a0 : aB} {a1 : Int} {r : Int} (h : lI a0 a1 = some r) : ACall Tryz.prog 130 [.agg a0.lit, .int .i64 a1] [] (fun res h => res = .int .i64 r ∧ h = []) := by
 refine cP Tryz.func130 ?_
 unfold lI at h
 refine .d (.d ⟨rfl, ⟨rfl, _, rfl, (.d (.d (sD h (fun de h => ?_) (fun de h => ?_))))⟩⟩)
 exact afK
 refine .d ⟨rfl, ⟨rfl, _, rfl, (.d (.d (sD h (fun jr h => ?_) (fun jr h => ?_))))⟩⟩
 exact afK
 refine .d ⟨rfl, ⟨rfl, _, rfl, (bk h fun v3 CR h => (bO (DO CR) (.d (.d (sD h (fun nW h => ?_) (fun nW h => ?_))))))⟩⟩
 exact afK
 exact afK
def kJ (a0 : ax) (a1 : Int) : Option (Int) :=
 (if (ah (a1 - (a0.ao.length : Int))) < 0 then
 some (-1)
 else
 (if (ah ((ah (a1 - (a0.ao.length : Int))) - (a0.bn.length : Int))) < 0 then
 some (-1)
 else
 (if (ah ((ah ((ah (a1 - (a0.ao.length : Int))) - (a0.bn.length : Int))) - (a0.fh.length : Int))) < 0 then
 some (-1)
 else
 some (ah ((ah ((ah (a1 - (a0.ao.length : Int))) - (a0.bn.length : Int))) - (a0.fh.length : Int))))))
theorem Ca {a0 : ax} {a1 : Int} {r : Int} (h : kJ a0 a1 = some r) : ACall Tryz.prog 131 [.agg a0.lit, .int .i64 a1] [] (fun res h => res = .int .i64 r ∧ h = []) := by
 refine cP Tryz.func131 ?_
 unfold kJ at h
 refine .d (.d ⟨rfl, ⟨rfl, _, rfl, (.d (.d (sD h (fun de h => ?_) (fun de h => ?_))))⟩⟩)
 exact afK
 refine .d ⟨rfl, ⟨rfl, _, rfl, (.d (.d (sD h (fun jr h => ?_) (fun jr h => ?_))))⟩⟩
 exact afK
 refine .d ⟨rfl, ⟨rfl, _, rfl, (.d (.d (sD h (fun lJ h => ?_) (fun lJ h => ?_))))⟩⟩
 exact afK
 exact afK
def iq (a0 : List aB) (y6 : Int) (y7 : Int) : Option ((Int) ⊕ Int) :=
 (if y7 < (a0.length : Int) then
 idx a0 y7 >>= fun kP =>
 lI kP y6 >>= fun qd =>
 (if qd < 0 then
 some (.inr (-1))
 else
 iq a0 qd (ah (y7 + 1)))
 else
 some (.inl y6))
partial_fixpoint
def lX (a0 : List aB) (a1 : Int) : Option (Int) :=
 (if (ah (a1 - (a0.length : Int))) < 0 then
 some (-1)
 else
 ((
 iq a0 (ah (a1 - (a0.length : Int))) 0
 : Option ((Int) ⊕ Int)) >>= fun o3 => match o3 with
 | .inr r => some r
 | .inl y2 =>
 some y2
 ))
theorem Cb {a0 : List aB} {a1 : Int} {r : Int} (h : lX a0 a1 = some r) : ACall Tryz.prog 89 [sl 8 aB.cells a0, .int .i64 a1] [] (fun res h => res = .int .i64 r ∧ h = []) := by
 refine cP Tryz.func89 ?_
 unfold lX at h
 refine .d (.d (.d (.d (sD h (fun de h => ?_) (fun de h => ?_)))))
 exact afK
 obtain ⟨o3, DH, uQ⟩ := bd h
 replace h := DH
 refine .cut (fun σ η => ∃ y2, .inl y2 = o3 ∧ σ = [(1, .int .i64 y2)] ∧ η = []) ?_ ?_
 refine .d ?_
 refine le (iq.partial_correctness a0 (motive := fun y6 y7 lW => o3 = lW → az _ _ [(0, sl 8 aB.cells a0), (1, .int .i64 y6), (5, .int .i64 y7)] []) ?_ (ah (a1 - (a0.length : Int))) 0 o3 h rfl) (tk [] ⟨.l, .i, .i, ⟨⟩⟩ ⟨⟩)
 intro F9 CQ y6 y7 lW h kc
 subst kc
 refine az.round (.d (.d (sD h (fun eY h => ?_) (fun eY h => ?_))))
 refine .d (.d (bk h fun kP dT h => ⟨aI dT, _, (aF dT).trans (aB.au kP), (bk h fun qd nY h => (bO (DP nY) (.d (sD h (fun dI h => ?_) (fun dI h => ?_)))))⟩))
 refine .d ?_
 exact afs
 exact afY
 exact afQ
 exact afn
def gA (a0 : List ax) (y6 : Int) (y7 : Int) : Option ((Int) ⊕ Int) :=
 (if y7 < (a0.length : Int) then
 idx a0 y7 >>= fun kP =>
 kJ kP y6 >>= fun qd =>
 (if qd < 0 then
 some (.inr (-1))
 else
 gA a0 qd (ah (y7 + 1)))
 else
 some (.inl y6))
partial_fixpoint
def k5 (a0 : List ax) (a1 : Int) : Option (Int) :=
 (if (ah (a1 - (a0.length : Int))) < 0 then
 some (-1)
 else
 ((
 gA a0 (ah (a1 - (a0.length : Int))) 0
 : Option ((Int) ⊕ Int)) >>= fun o3 => match o3 with
 | .inr r => some r
 | .inl y2 =>
 some y2
 ))
theorem Aa {a0 : List ax} {a1 : Int} {r : Int} (h : k5 a0 a1 = some r) : ACall Tryz.prog 90 [sl 5 ax.cells a0, .int .i64 a1] [] (fun res h => res = .int .i64 r ∧ h = []) := by
 refine cP Tryz.func90 ?_
 unfold k5 at h
 refine .d (.d (.d (.d (sD h (fun de h => ?_) (fun de h => ?_)))))
 exact afK
 obtain ⟨o3, DH, uQ⟩ := bd h
 replace h := DH
 refine .cut (fun σ η => ∃ y2, .inl y2 = o3 ∧ σ = [(1, .int .i64 y2)] ∧ η = []) ?_ ?_
 refine .d ?_
 refine le (gA.partial_correctness a0 (motive := fun y6 y7 lW => o3 = lW → az _ _ [(0, sl 5 ax.cells a0), (1, .int .i64 y6), (5, .int .i64 y7)] []) ?_ (ah (a1 - (a0.length : Int))) 0 o3 h rfl) (tk [] ⟨.l, .i, .i, ⟨⟩⟩ ⟨⟩)
 intro F9 CQ y6 y7 lW h kc
 subst kc
 refine az.round (.d (.d (sD h (fun eY h => ?_) (fun eY h => ?_))))
 refine .d (.d (bk h fun kP dT h => ⟨aI dT, _, (aF dT).trans (ax.au kP), (bk h fun qd nY h => (bO (Ca nY) (.d (sD h (fun dI h => ?_) (fun dI h => ?_)))))⟩))
 refine .d ?_
 exact afs
 exact afY
 exact afQ
 exact afn
def lK (a0 : aw) (a1 : Int) : Option (Int) :=
 (if (ah (a1 - (a0.ao.length : Int))) < 0 then
 some (-1)
 else
 (if (ah ((ah (a1 - (a0.ao.length : Int))) - (a0.bD.length : Int))) < 0 then
 some (-1)
 else
 lX a0.aA (ah ((ah (a1 - (a0.ao.length : Int))) - (a0.bD.length : Int))) >>= fun v3 =>
 (if v3 < 0 then
 some (-1)
 else
 k5 a0.av v3 >>= fun v6 =>
 (if v6 < 0 then
 some (-1)
 else
 some v6))))
theorem DQ {a0 : aw} {a1 : Int} {r : Int} (h : lK a0 a1 = some r) : ACall Tryz.prog 42 [.agg a0.lit, .int .i64 a1] [] (fun res h => res = .int .i64 r ∧ h = []) := by
 refine cP Tryz.func42 ?_
 unfold lK at h
 refine .d (.d ⟨rfl, ⟨rfl, _, rfl, (.d (.d (sD h (fun de h => ?_) (fun de h => ?_))))⟩⟩)
 exact afK
 refine .d ⟨rfl, ⟨rfl, _, rfl, (.d (.d (sD h (fun jr h => ?_) (fun jr h => ?_))))⟩⟩
 exact afK
 refine .d ⟨rfl, ⟨rfl, _, rfl, (bk h fun v3 CR h => (bO (Cb CR) (.d (.d (sD h (fun nW h => ?_) (fun nW h => ?_))))))⟩⟩
 exact afK
 refine .d ⟨rfl, ⟨rfl, _, rfl, (bk h fun v6 P4 h => (bO (Aa P4) (.d (.d (sD h (fun nh h => ?_) (fun nh h => ?_))))))⟩⟩
 exact afK
 exact afK
def ir (a0 : List aw) (y6 : Int) (y7 : Int) : Option ((Int) ⊕ Int) :=
 (if y7 < (a0.length : Int) then
 idx a0 y7 >>= fun kP =>
 lK kP y6 >>= fun qd =>
 (if qd < 0 then
 some (.inr (-1))
 else
 ir a0 qd (ah (y7 + 1)))
 else
 some (.inl y6))
partial_fixpoint
def lY (a0 : List aw) (a1 : Int) : Option (Int) :=
 (if (ah (a1 - (a0.length : Int))) < 0 then
 some (-1)
 else
 ((
 ir a0 (ah (a1 - (a0.length : Int))) 0
 : Option ((Int) ⊕ Int)) >>= fun o3 => match o3 with
 | .inr r => some r
 | .inl y2 =>
 some y2
 ))
theorem Cc {a0 : List aw} {a1 : Int} {r : Int} (h : lY a0 a1 = some r) : ACall Tryz.prog 19 [sl 4 aw.cells a0, .int .i64 a1] [] (fun res h => res = .int .i64 r ∧ h = []) := by
 refine cP Tryz.func19 ?_
 unfold lY at h
 refine .d (.d (.d (.d (sD h (fun de h => ?_) (fun de h => ?_)))))
 exact afK
 obtain ⟨o3, DH, uQ⟩ := bd h
 replace h := DH
 refine .cut (fun σ η => ∃ y2, .inl y2 = o3 ∧ σ = [(1, .int .i64 y2)] ∧ η = []) ?_ ?_
 refine .d ?_
 refine le (ir.partial_correctness a0 (motive := fun y6 y7 lW => o3 = lW → az _ _ [(0, sl 4 aw.cells a0), (1, .int .i64 y6), (5, .int .i64 y7)] []) ?_ (ah (a1 - (a0.length : Int))) 0 o3 h rfl) (tk [] ⟨.l, .i, .i, ⟨⟩⟩ ⟨⟩)
 intro F9 CQ y6 y7 lW h kc
 subst kc
 refine az.round (.d (.d (sD h (fun eY h => ?_) (fun eY h => ?_))))
 refine .d (.d (bk h fun kP dT h => ⟨aI dT, _, (aF dT).trans (aw.au kP), (bk h fun qd nY h => (bO (DQ nY) (.d (sD h (fun dI h => ?_) (fun dI h => ?_)))))⟩))
 refine .d ?_
 exact afs
 exact afY
 exact afQ
 exact afn
def k6 (a0 : aD) (a1 : Int) : Option (Int) :=
 nu a0.aG a1 >>= fun v1 =>
 (if v1 < 0 then
 some (-1)
 else
 lY a0.ay v1 >>= fun v4 =>
 (if v4 < 0 then
 some (-1)
 else
 some v4))
theorem Ab {a0 : aD} {a1 : Int} {r : Int} (h : k6 a0 a1 = some r) : ACall Tryz.prog 5 [.agg a0.lit, .int .i64 a1] [] (fun res h => res = .int .i64 r ∧ h = []) := by
 refine cP Tryz.func5 ?_
 unfold k6 at h
 refine .d (.d ⟨rfl, ⟨rfl, _, rfl, (bk h fun v1 jT h => (bO (DK jT) (.d (.d (sD h (fun lJ h => ?_) (fun lJ h => ?_))))))⟩⟩)
 exact afK
 refine .d ⟨rfl, ⟨rfl, _, rfl, (bk h fun v4 xy h => (bO (Cc xy) (.d (.d (sD h (fun oM h => ?_) (fun oM h => ?_))))))⟩⟩
 exact afK
 exact afK
set_option maxRecDepth 100000
theorem FL (a0 : aR) : ACall Tryz.prog 146 [.agg a0.lit] [] (fun res h => res = .agg a0.lit ∧ h = []) := by
 refine cP Tryz.func146 ?_
 refine .d (.d (.d ⟨rfl, ⟨rfl, _, rfl, ⟨rfl, ⟨rfl, _, fun _ => [.int .i64 a0.aW, .int .i64 0, .int .i64 0, .str [], .str []], rfl, aM rfl, (.d ⟨rfl, ⟨rfl, _, rfl, ⟨rfl, ⟨rfl, _, fun _ => [.int .i64 a0.aW, .int .i64 a0.fA, .int .i64 0, .str [], .str []], rfl, aM rfl, (.d ⟨rfl, ⟨rfl, _, rfl, ?_⟩⟩)⟩⟩⟩⟩)⟩⟩⟩⟩))
 refine ⟨rfl, ⟨rfl, _, fun _ => [.int .i64 a0.aW, .int .i64 a0.fA, .int .i64 a0.fB, .str [], .str []], rfl, aM rfl, (.d ⟨rfl, ⟨rfl, _, rfl, ⟨rfl, ⟨rfl, _, fun _ => [.int .i64 a0.aW, .int .i64 a0.fA, .int .i64 a0.fB, .str a0.fS, .str []], rfl, aM rfl, (.d ⟨rfl, ⟨rfl, _, rfl, ⟨rfl, ⟨rfl, _, fun _ => [.int .i64 a0.aW, .int .i64 a0.fA, .int .i64 a0.fB, .str a0.fS, .str a0.fT], rfl, aM rfl, (.d ⟨rfl, _, rfl, ⟨rfl, _, fun _ => [.int .i64 a0.aW, .int .i64 a0.fA, .int .i64 a0.fB, .str a0.fS, .str a0.fT], rfl, aM rfl, ?_⟩⟩)⟩⟩⟩⟩)⟩⟩⟩⟩)⟩⟩
 exact ⟨rfl, _, rfl, (en [] ⟨rfl, rfl⟩ (.jZ ⟨.i, .i, .i, .s, .s, ⟨⟩⟩) ⟨⟩)⟩
theorem Cd (a0 : TParam) : ACall Tryz.prog 145 [.agg a0.lit] [] (fun res h => res = .agg a0.lit ∧ h = []) := by
 refine cP Tryz.func145 ?_
 refine .d (.d (.d ⟨rfl, ⟨rfl, _, rfl, ⟨rfl, ⟨rfl, _, fun _ => [.str a0.ao, .bool false], rfl, aM rfl, (.d ⟨rfl, ⟨rfl, _, rfl, ⟨rfl, ⟨rfl, _, fun _ => [.str a0.ao, .bool a0.vh], rfl, aM rfl, (.d ⟨rfl, _, rfl, ⟨rfl, _, fun _ => [.str a0.ao, .bool a0.vh], rfl, aM rfl, ?_⟩⟩)⟩⟩⟩⟩)⟩⟩⟩⟩))
 exact ⟨rfl, _, rfl, (en [] ⟨rfl, rfl⟩ (.jZ ⟨.s, .b, ⟨⟩⟩) ⟨⟩)⟩
theorem Ac (a0 : ax) : ACall Tryz.prog 148 [.agg a0.lit] [] (fun res h => res = .agg a0.lit ∧ h = []) := by
 refine cP Tryz.func148 ?_
 refine .d (.d (.d ⟨rfl, ⟨rfl, _, rfl, ⟨rfl, ⟨rfl, _, fun _ => [.str a0.ao, .str [], .str [], .bool false, .bool false], rfl, aM rfl, (.d ⟨rfl, ⟨rfl, _, rfl, ⟨rfl, ⟨rfl, _, fun _ => [.str a0.ao, .str a0.bn, .str [], .bool false, .bool false], rfl, aM rfl, (.d ⟨rfl, ⟨rfl, _, rfl, ?_⟩⟩)⟩⟩⟩⟩)⟩⟩⟩⟩))
 refine ⟨rfl, ⟨rfl, _, fun _ => [.str a0.ao, .str a0.bn, .str a0.fh, .bool false, .bool false], rfl, aM rfl, (.d ⟨rfl, ⟨rfl, _, rfl, ⟨rfl, ⟨rfl, _, fun _ => [.str a0.ao, .str a0.bn, .str a0.fh, .bool a0.bc, .bool false], rfl, aM rfl, (.d ⟨rfl, ⟨rfl, _, rfl, ⟨rfl, ⟨rfl, _, fun _ => [.str a0.ao, .str a0.bn, .str a0.fh, .bool a0.bc, .bool a0.fZ], rfl, aM rfl, (.d ⟨rfl, _, rfl, ⟨rfl, _, fun _ => [.str a0.ao, .str a0.bn, .str a0.fh, .bool a0.bc, .bool a0.fZ], rfl, aM rfl, ?_⟩⟩)⟩⟩⟩⟩)⟩⟩⟩⟩)⟩⟩
 exact ⟨rfl, _, rfl, (en [] ⟨rfl, rfl⟩ (.jZ ⟨.s, .s, .s, .b, .b, ⟨⟩⟩) ⟨⟩)⟩
theorem FM (a0 : bJ) : ACall Tryz.prog 209 [.agg a0.lit] [] (fun res h => res = .agg a0.lit ∧ h = []) := by
 refine cP Tryz.func209 ?_
 refine .d (.d (.d ⟨rfl, ⟨rfl, _, rfl, ⟨rfl, ⟨rfl, _, fun _ => [.bool a0.cr, .int .i64 0, .str []], rfl, aM rfl, (.d ⟨rfl, ⟨rfl, _, rfl, ⟨rfl, ⟨rfl, _, fun _ => [.bool a0.cr, .int .i64 a0.bb, .str []], rfl, aM rfl, (.d ⟨rfl, ⟨rfl, _, rfl, ?_⟩⟩)⟩⟩⟩⟩)⟩⟩⟩⟩))
 exact ⟨rfl, ⟨rfl, _, fun _ => [.bool a0.cr, .int .i64 a0.bb, .str a0.bm], rfl, aM rfl, (.d ⟨rfl, _, rfl, ⟨rfl, _, fun _ => [.bool a0.cr, .int .i64 a0.bb, .str a0.bm], rfl, aM rfl, ⟨rfl, _, rfl, (en [] ⟨rfl, rfl⟩ (.jZ ⟨.b, .i, .s, ⟨⟩⟩) ⟨⟩)⟩⟩⟩)⟩⟩
def jH (a0 : List aR) (l7 : List aR) (y8 : Int) : Option ((List aR)) :=
 (if y8 < (a0.length : Int) then
 idx a0 y8 >>= fun mO =>
 idx l7 y8 >>= fun CS =>
 jH a0 (l7.set y8.toNat mO) (ah (y8 + 1))
 else
 some l7)
partial_fixpoint
def oS (a0 : List aR) : Option ((List aR)) :=
 (nv 56 (a0.length : Int) (a0.length : Int) : Option (List aR)) >>= fun l1 =>
 (
 jH a0 l1 0
 : Option ((List aR))) >>= fun l3 =>
 some l3
theorem FN {a0 : List aR} {r : (List aR)} (h : oS a0 = some r) : ACall Tryz.prog 104 [sl 5 aR.cells a0] [] (fun res h => res = .own 0 0 0 r.length ∧ h = [.row 0 5 r.length 64 (row aR.cells r)]) := by
 refine cP Tryz.func104 ?_
 unfold oS at h
 refine .d (.d (bk h fun l1 sZ h => ⟨lZ sZ, l1.length, row aR.cells l1, jI sZ, qU sZ (aR.au default) ⟨.same _, .same _, .same _, .same _, .same _, trivial⟩, ?_⟩))
 obtain ⟨o4, KR, Ia⟩ := bd h
 replace h := KR
 refine .cut (fun σ η => ∃ l3, l3 = o4 ∧ σ = [(3, .own 0 0 0 l3.length)] ∧ η = [.row 0 5 l3.length 64 (row aR.cells l3)]) ?_ ?_
 refine .d ?_
 refine le (jH.partial_correctness a0 (motive := fun l7 y8 lW => o4 = lW → az _ _ [(0, sl 5 aR.cells a0), (3, .own 0 0 0 l7.length), (4, .int .i64 y8)] [.row 0 5 l7.length 64 (row aR.cells l7)]) ?_ l1 0 o4 h rfl) (tk [0] ⟨.l, .o, .i, ⟨⟩⟩ ⟨nw, ⟨⟩⟩)
 intro F10 Mr l7 y8 lW h kc
 subst kc
 refine az.round (.d (.d (sD h (fun jU h => ?_) (fun jU h => ?_))))
 exact .d (bk h fun mO oT h => ⟨aI oT, _, (aF oT).trans (aR.au mO), (bO (FL mO) (bk h fun CS lT h => ⟨rfl, aI lT, _, No _, ⟨rfl, _, row aR.cells (l7.set y8.toNat mO), ((aF lT).trans (aR.au CS)), ou (gY lT) (aR.au mO) ⟨.same _, .same _, .same _, .same _, .same _, trivial⟩, (lg (Mr _ _ _ h rfl) (tk [0] ⟨.l, (.ox ln), .i, ⟨⟩⟩ ⟨(P5 rfl ln), ⟨⟩⟩))⟩⟩))⟩)
 exact age
 rintro _ _ ⟨l3, rfl, rfl, rfl⟩
 replace h := Ia
 refine .d ?_
 exact afA
def iu (a0 : List TParam) (l7 : List TParam) (y8 : Int) : Option ((List TParam)) :=
 (if y8 < (a0.length : Int) then
 idx a0 y8 >>= fun mO =>
 idx l7 y8 >>= fun CS =>
 iu a0 (l7.set y8.toNat mO) (ah (y8 + 1))
 else
 some l7)
partial_fixpoint
def kK (a0 : List TParam) : Option ((List TParam)) :=
 (nv 24 (a0.length : Int) (a0.length : Int) : Option (List TParam)) >>= fun l1 =>
 (
 iu a0 l1 0
 : Option ((List TParam))) >>= fun l3 =>
 some l3
theorem uS {a0 : List TParam} {r : (List TParam)} (h : kK a0 = some r) : ACall Tryz.prog 102 [sl 2 TParam.cells a0] [] (fun res h => res = .own 0 0 0 r.length ∧ h = [.row 0 2 r.length 61 (row TParam.cells r)]) := by
 refine cP Tryz.func102 ?_
 unfold kK at h
 refine .d (.d (bk h fun l1 sZ h => ⟨lZ sZ, l1.length, row TParam.cells l1, jI sZ, qU sZ (TParam.au default) ⟨.same _, .same _, trivial⟩, ?_⟩))
 obtain ⟨o4, KR, Ia⟩ := bd h
 replace h := KR
 refine .cut (fun σ η => ∃ l3, l3 = o4 ∧ σ = [(3, .own 0 0 0 l3.length)] ∧ η = [.row 0 2 l3.length 61 (row TParam.cells l3)]) ?_ ?_
 refine .d ?_
 refine le (iu.partial_correctness a0 (motive := fun l7 y8 lW => o4 = lW → az _ _ [(0, sl 2 TParam.cells a0), (3, .own 0 0 0 l7.length), (4, .int .i64 y8)] [.row 0 2 l7.length 61 (row TParam.cells l7)]) ?_ l1 0 o4 h rfl) (tk [0] ⟨.l, .o, .i, ⟨⟩⟩ ⟨nw, ⟨⟩⟩)
 intro F10 Mr l7 y8 lW h kc
 subst kc
 refine az.round (.d (.d (sD h (fun jU h => ?_) (fun jU h => ?_))))
 exact .d (bk h fun mO oT h => ⟨aI oT, _, (aF oT).trans (TParam.au mO), (bO (Cd mO) (bk h fun CS lT h => ⟨rfl, aI lT, _, No _, ⟨rfl, _, row TParam.cells (l7.set y8.toNat mO), ((aF lT).trans (TParam.au CS)), ou (gY lT) (TParam.au mO) ⟨.same _, .same _, trivial⟩, (lg (Mr _ _ _ h rfl) (tk [0] ⟨.l, (.ox ln), .i, ⟨⟩⟩ ⟨(P5 rfl ln), ⟨⟩⟩))⟩⟩))⟩)
 exact age
 rintro _ _ ⟨l3, rfl, rfl, rfl⟩
 replace h := Ia
 refine .d ?_
 exact afA
def gB (a0 : List ba) (l7 : List ba) (y8 : Int) : Option ((List ba)) :=
 (if y8 < (a0.length : Int) then
 idx a0 y8 >>= fun mO =>
 idx l7 y8 >>= fun CS =>
 gB a0 (l7.set y8.toNat mO) (ah (y8 + 1))
 else
 some l7)
partial_fixpoint
def k7 (a0 : List ba) : Option ((List ba)) :=
 (nv 16 (a0.length : Int) (a0.length : Int) : Option (List ba)) >>= fun l1 =>
 (
 gB a0 l1 0
 : Option ((List ba))) >>= fun l3 =>
 some l3
theorem Ad {a0 : List ba} {r : (List ba)} (h : k7 a0 = some r) : ACall Tryz.prog 103 [sl 1 cS a0] [] (fun res h => res = .own 0 0 0 r.length ∧ h = [.row 0 1 r.length 9 (row cS r)]) := by
 refine cP Tryz.func103 ?_
 unfold k7 at h
 refine .d (.d (bk h fun l1 sZ h => ⟨lZ sZ, l1.length, row cS l1, jI sZ, qU sZ rfl ⟨.same _, trivial⟩, ?_⟩))
 obtain ⟨o4, KR, Ia⟩ := bd h
 replace h := KR
 refine .cut (fun σ η => ∃ l3, l3 = o4 ∧ σ = [(3, .own 0 0 0 l3.length)] ∧ η = [.row 0 1 l3.length 9 (row cS l3)]) ?_ ?_
 refine .d ?_
 refine le (gB.partial_correctness a0 (motive := fun l7 y8 lW => o4 = lW → az _ _ [(0, sl 1 cS a0), (3, .own 0 0 0 l7.length), (4, .int .i64 y8)] [.row 0 1 l7.length 9 (row cS l7)]) ?_ l1 0 o4 h rfl) (tk [0] ⟨.l, .o, .i, ⟨⟩⟩ ⟨nw, ⟨⟩⟩)
 intro F10 Mr l7 y8 lW h kc
 subst kc
 refine az.round (.d (.d (sD h (fun jU h => ?_) (fun jU h => ?_))))
 exact .d (bk h fun mO oT h => ⟨aI oT, _, (aF oT).trans rfl, (bk h fun CS lT h => ⟨rfl, aI lT, _, No _, ⟨rfl, _, row cS (l7.set y8.toNat mO), ((aF lT).trans rfl), ou (gY lT) rfl ⟨.same _, trivial⟩, (lg (Mr _ _ _ h rfl) (tk [0] ⟨.l, (.ox ln), .i, ⟨⟩⟩ ⟨(P5 rfl ln), ⟨⟩⟩))⟩⟩)⟩)
 exact age
 rintro _ _ ⟨l3, rfl, rfl, rfl⟩
 replace h := Ia
 refine .d ?_
 exact afA
def gE (a0 : List ax) (l7 : List ax) (y8 : Int) : Option ((List ax)) :=
 (if y8 < (a0.length : Int) then
 idx a0 y8 >>= fun mO =>
 idx l7 y8 >>= fun CS =>
 gE a0 (l7.set y8.toNat mO) (ah (y8 + 1))
 else
 some l7)
partial_fixpoint
def k8 (a0 : List ax) : Option ((List ax)) :=
 (nv 56 (a0.length : Int) (a0.length : Int) : Option (List ax)) >>= fun l1 =>
 (
 gE a0 l1 0
 : Option ((List ax))) >>= fun l3 =>
 some l3
theorem Ae {a0 : List ax} {r : (List ax)} (h : k8 a0 = some r) : ACall Tryz.prog 106 [sl 5 ax.cells a0] [] (fun res h => res = .own 0 0 0 r.length ∧ h = [.row 0 5 r.length 106 (row ax.cells r)]) := by
 refine cP Tryz.func106 ?_
 unfold k8 at h
 refine .d (.d (bk h fun l1 sZ h => ⟨lZ sZ, l1.length, row ax.cells l1, jI sZ, qU sZ (ax.au default) ⟨.same _, .same _, .same _, .same _, .same _, trivial⟩, ?_⟩))
 obtain ⟨o4, KR, Ia⟩ := bd h
 replace h := KR
 refine .cut (fun σ η => ∃ l3, l3 = o4 ∧ σ = [(3, .own 0 0 0 l3.length)] ∧ η = [.row 0 5 l3.length 106 (row ax.cells l3)]) ?_ ?_
 refine .d ?_
 refine le (gE.partial_correctness a0 (motive := fun l7 y8 lW => o4 = lW → az _ _ [(0, sl 5 ax.cells a0), (3, .own 0 0 0 l7.length), (4, .int .i64 y8)] [.row 0 5 l7.length 106 (row ax.cells l7)]) ?_ l1 0 o4 h rfl) (tk [0] ⟨.l, .o, .i, ⟨⟩⟩ ⟨nw, ⟨⟩⟩)
 intro F10 Mr l7 y8 lW h kc
 subst kc
 refine az.round (.d (.d (sD h (fun jU h => ?_) (fun jU h => ?_))))
 exact .d (bk h fun mO oT h => ⟨aI oT, _, (aF oT).trans (ax.au mO), (bO (Ac mO) (bk h fun CS lT h => ⟨rfl, aI lT, _, No _, ⟨rfl, _, row ax.cells (l7.set y8.toNat mO), ((aF lT).trans (ax.au CS)), ou (gY lT) (ax.au mO) ⟨.same _, .same _, .same _, .same _, .same _, trivial⟩, (lg (Mr _ _ _ h rfl) (tk [0] ⟨.l, (.ox ln), .i, ⟨⟩⟩ ⟨(P5 rfl ln), ⟨⟩⟩))⟩⟩))⟩)
 exact age
 rintro _ _ ⟨l3, rfl, rfl, rfl⟩
 replace h := Ia
 refine .d ?_
 exact afA
def oU (a0 : aC) : Option (aC) :=
 kK a0.ak >>= fun v1 =>
 kK a0.aE >>= fun v3 =>
 k7 a0.ar >>= fun v5 =>
 oS a0.aq >>= fun v7 =>
 some (aC.mk a0.ao v1 v3 v5 a0.dk v7)
theorem FO {a0 : aC} {r : aC} (h : oU a0 = some r) : ACall Tryz.prog 52 [.agg a0.lit] [] (fun res h => res = .agg [.str r.ao, .own 0 0 0 r.ak.length, .own 1 0 0 r.aE.length, .own 2 0 0 r.ar.length, .bool r.dk, .own 3 0 0 r.aq.length] ∧ h = [.row 0 2 r.ak.length 61 (row TParam.cells r.ak), .row 0 2 r.aE.length 61 (row TParam.cells r.aE), .row 0 1 r.ar.length 9 (row cS r.ar), .row 0 5 r.aq.length 64 (row aR.cells r.aq)]) := by
 refine cP Tryz.func52 ?_
 unfold oU at h
 refine .d (.d (.d ⟨rfl, ⟨rfl, _, rfl, ⟨rfl, ⟨rfl, _, fun _ => [.str a0.ao, .aO, .aO, .aO, .bool false, .aO], rfl, aM rfl, (.d ⟨rfl, ⟨rfl, _, rfl, (bk h fun v1 jT h => (P6 (uS jT) (.own 3 0 0 v1.length) [.row 0 6 1 89 (fun _ => a0.lit), .row 0 6 1 57 (fun _ => [.str [], .aO, .aO, .aO, .bool false, .aO]), .row 0 6 1 57 (fun _ => [.str a0.ao, .aO, .aO, .aO, .bool false, .aO]), .row 0 2 v1.length 61 (row TParam.cells v1)] ⟨rfl, ⟨rfl, _, fun _ => [.str a0.ao, .own 3 0 0 v1.length, .aO, .aO, .bool false, .aO], rfl, aM rfl, (.d ?_)⟩⟩))⟩⟩)⟩⟩⟩⟩))
 refine ⟨rfl, ⟨rfl, _, rfl, (bk h fun v3 CR h => (P6 (uS CR) (.own 4 0 0 v3.length) [.row 0 6 1 89 (fun _ => a0.lit), .row 0 6 1 57 (fun _ => [.str [], .aO, .aO, .aO, .bool false, .aO]), .row 0 6 1 57 (fun _ => [.str a0.ao, .own 3 0 0 v1.length, .aO, .aO, .bool false, .aO]), .row 0 2 v1.length 61 (row TParam.cells v1), .row 0 2 v3.length 61 (row TParam.cells v3)] ⟨rfl, ⟨rfl, _, fun _ => [.str a0.ao, .own 3 0 0 v1.length, .own 4 0 0 v3.length, .aO, .bool false, .aO], rfl, aM rfl, (.d ⟨rfl, ⟨rfl, _, rfl, (bk h fun v5 DJ h => (P6 (Ad DJ) (.own 5 0 0 v5.length) [.row 0 6 1 89 (fun _ => a0.lit), .row 0 6 1 57 (fun _ => [.str [], .aO, .aO, .aO, .bool false, .aO]), .row 0 6 1 57 (fun _ => [.str a0.ao, .own 3 0 0 v1.length, .own 4 0 0 v3.length, .aO, .bool false, .aO]), .row 0 2 v1.length 61 (row TParam.cells v1), .row 0 2 v3.length 61 (row TParam.cells v3), .row 0 1 v5.length 9 (row cS v5)] ⟨rfl, ⟨rfl, _, fun _ => [.str a0.ao, .own 3 0 0 v1.length, .own 4 0 0 v3.length, .own 5 0 0 v5.length, .bool false, .aO], rfl, aM rfl, (.d ⟨rfl, ?_⟩)⟩⟩))⟩⟩)⟩⟩))⟩⟩
 refine ⟨rfl, _, rfl, ⟨rfl, ⟨rfl, _, fun _ => [.str a0.ao, .own 3 0 0 v1.length, .own 4 0 0 v3.length, .own 5 0 0 v5.length, .bool a0.dk, .aO], rfl, aM rfl, (.d ⟨rfl, ⟨rfl, _, rfl, (bk h fun v7 Ib h => (P6 (FN Ib) (.own 6 0 0 v7.length) [.row 0 6 1 89 (fun _ => a0.lit), .row 0 6 1 57 (fun _ => [.str [], .aO, .aO, .aO, .bool false, .aO]), .row 0 6 1 57 (fun _ => [.str a0.ao, .own 3 0 0 v1.length, .own 4 0 0 v3.length, .own 5 0 0 v5.length, .bool a0.dk, .aO]), .row 0 2 v1.length 61 (row TParam.cells v1), .row 0 2 v3.length 61 (row TParam.cells v3), .row 0 1 v5.length 9 (row cS v5), .row 0 5 v7.length 64 (row aR.cells v7)] ⟨rfl, ⟨rfl, _, fun _ => [.str a0.ao, .own 3 0 0 v1.length, .own 4 0 0 v3.length, .own 5 0 0 v5.length, .bool a0.dk, .own 6 0 0 v7.length], rfl, aM rfl, (.d ⟨rfl, _, rfl, ⟨rfl, _, fun _ => [.str a0.ao, .own 3 0 0 v1.length, .own 4 0 0 v3.length, .own 5 0 0 v5.length, .bool a0.dk, .own 6 0 0 v7.length], rfl, aM rfl, ?_⟩⟩)⟩⟩))⟩⟩)⟩⟩⟩
 obtain rfl := si h
 exact ⟨rfl, _, rfl, (en [3, 4, 5, 6] ⟨rfl, rfl⟩ (.jZ ⟨.s, .o, .o, .o, .b, .o, ⟨⟩⟩) ⟨nw, nw, nw, nw, ⟨⟩⟩)⟩
def jf (a0 : List aC) (l10 : List aC) (ma : Int) : Option ((List aC)) :=
 (if ma < (a0.length : Int) then
 idx a0 ma >>= fun kH =>
 oU kH >>= fun aZ =>
 idx l10 ma >>= fun uT =>
 jf a0 (l10.set ma.toNat aZ) (ah (ma + 1))
 else
 some l10)
partial_fixpoint
def nx (a0 : List aC) : Option ((List aC)) :=
 (nv 120 (a0.length : Int) (a0.length : Int) : Option (List aC)) >>= fun l1 =>
 (
 jf a0 l1 0
 : Option ((List aC))) >>= fun l4 =>
 some l4
theorem DS {a0 : List aC} {r : (List aC)} (h : nx a0 = some r) : ACall Tryz.prog 22 [sl 6 aC.cells a0] [] (fun res h => ∃ F0 : Nat → List PV, DR aC.D r.length F0 r ∧ res = .own 0 0 0 r.length ∧ h = [.row 0 6 r.length 57 F0]) := by
 refine cP Tryz.func22 ?_
 unfold nx at h
 refine .d (.d (bk h fun l1 sZ h => ?_))
 have d3 : DR aC.D l1.length (fun i => bif Nat.blt i l1.length then [.str [], .aY 2 0 61 (row TParam.cells ([] : List TParam)) (fun _ => False), .aY 2 0 61 (row TParam.cells ([] : List TParam)) (fun _ => False), .aY 1 0 9 (row cS ([] : List ba)) (fun _ => False), .bool false, .aY 5 0 64 (row aR.cells ([] : List aR)) (fun _ => False)] else []) l1 := wc sZ (aC.vi (x := (default : aC)) rfl rfl rfl rfl : aC.D [.str [], .aY 2 0 61 (row TParam.cells ([] : List TParam)) (fun _ => False), .aY 2 0 61 (row TParam.cells ([] : List TParam)) (fun _ => False), .aY 1 0 9 (row cS ([] : List ba)) (fun _ => False), .bool false, .aY 5 0 64 (row aR.cells ([] : List aR)) (fun _ => False)] (default : aC))
 refine ⟨lZ sZ, l1.length, (fun i => bif Nat.blt i l1.length then [.str [], .aY 2 0 61 (row TParam.cells ([] : List TParam)) (fun _ => False), .aY 2 0 61 (row TParam.cells ([] : List TParam)) (fun _ => False), .aY 1 0 9 (row cS ([] : List ba)) (fun _ => False), .bool false, .aY 5 0 64 (row aR.cells ([] : List aR)) (fun _ => False)] else []), jI sZ, DT rfl ⟨.same _, .we _ _ _, .we _ _ _, .we _ _ _, .same _, .we _ _ _, trivial⟩, ?_⟩
 obtain ⟨o7, Mp, H8⟩ := bd h
 replace h := Mp
 refine .cut (fun σ η => ∃ l4, ∃ f5 : Nat → List PV, DR aC.D l1.length f5 l4 ∧ l4 = o7 ∧ σ = [(3, .own 0 0 0 l1.length)] ∧ η = [.row 0 6 l1.length 57 f5]) ?_ ?_
 refine .d ?_
 refine le (jf.partial_correctness a0 (motive := fun l10 ma Fw => ∀ f11 : Nat → List PV, DR aC.D l1.length f11 l10 → o7 = Fw → az _ _ [(0, sl 6 aC.cells a0), (3, .own 0 0 0 l1.length), (4, .int .i64 ma)] [.row 0 6 l1.length 57 f11]) ?_ l1 0 o7 h (fun i => bif Nat.blt i l1.length then [.str [], .aY 2 0 61 (row TParam.cells ([] : List TParam)) (fun _ => False), .aY 2 0 61 (row TParam.cells ([] : List TParam)) (fun _ => False), .aY 1 0 9 (row cS ([] : List ba)) (fun _ => False), .bool false, .aY 5 0 64 (row aR.cells ([] : List aR)) (fun _ => False)] else []) d3 rfl) (tk [0] ⟨.l, (.od agJ), .i, ⟨⟩⟩ ⟨(yu d3), ⟨⟩⟩)
 intro F15 Ms l10 ma Fw h f11 d12 Mt
 subst Mt
 refine az.round (.d (.d (sD h (fun lx h => ?_) (fun lx h => ?_))))
 refine .d (bk h fun kH k9 h => ⟨aI k9, _, (aF k9).trans (aC.au kH), (bk h fun aZ Af h => (P6 (FO Af) (.agg [.str aZ.ao, .own 1 0 0 aZ.ak.length, .own 2 0 0 aZ.aE.length, .own 3 0 0 aZ.ar.length, .bool aZ.dk, .own 4 0 0 aZ.aq.length]) [.row 0 6 l1.length 57 f11, .row 0 2 aZ.ak.length 61 (row TParam.cells aZ.ak), .row 0 2 aZ.aE.length 61 (row TParam.cells aZ.aE), .row 0 1 aZ.ar.length 9 (row cS aZ.ar), .row 0 5 aZ.aq.length 64 (row aR.cells aZ.aq)] (bk h fun uT rG h => ?_)))⟩)
 obtain ⟨xz, F24, F25, F26, e27⟩ := aC.ta (DR.idx d12 rG)
 refine ⟨rfl, DR.bd d12 rG, _, No _, ⟨rfl, _, (bw f11 ma.toNat [.str aZ.ao, .own 1 0 0 aZ.ak.length, .own 2 0 0 aZ.aE.length, .own 3 0 0 aZ.ar.length, .bool aZ.dk, .own 4 0 0 aZ.aq.length]), e27, mT ⟨.same _, .same _, .same _, .same _, .same _, .same _, trivial⟩, (.ab 0 ma.toNat 1 1 (fun Ce => [.row 0 6 l1.length 57 (bw f11 ma.toNat [.str aZ.ao, .aY 2 aZ.ak.length 61 (row TParam.cells aZ.ak) Ce, .own 2 0 0 aZ.aE.length, .own 3 0 0 aZ.ar.length, .bool aZ.dk, .own 4 0 0 aZ.aq.length]), .dead, .row 0 2 aZ.aE.length 61 (row TParam.cells aZ.aE), .row 0 1 aZ.ar.length 9 (row cS aZ.ar), .row 0 5 aZ.aq.length 64 (row aR.cells aZ.aq)]) (fun Ce => uG [.str aZ.ao, .own 1 0 0 aZ.ak.length, .own 2 0 0 aZ.aE.length, .own 3 0 0 aZ.ar.length, .bool aZ.dk, .own 4 0 0 aZ.aq.length] [.str aZ.ao, .aY 2 aZ.ak.length 61 (row TParam.cells aZ.ak) Ce, .own 2 0 0 aZ.aE.length, .own 3 0 0 aZ.ar.length, .bool aZ.dk, .own 4 0 0 aZ.aq.length] (bw f11 ma.toNat [.str aZ.ao, .aY 2 aZ.ak.length 61 (row TParam.cells aZ.ak) Ce, .own 2 0 0 aZ.aE.length, .own 3 0 0 aZ.ar.length, .bool aZ.dk, .own 4 0 0 aZ.aq.length]) (DR.lt d12 rG) aP aP dR Ag rfl rfl rfl rfl agj rfl) fun Ce => (.ab 0 ma.toNat 2 2 (fun yv => [.row 0 6 l1.length 57 (bw f11 ma.toNat [.str aZ.ao, .aY 2 aZ.ak.length 61 (row TParam.cells aZ.ak) Ce, .aY 2 aZ.aE.length 61 (row TParam.cells aZ.aE) yv, .own 3 0 0 aZ.ar.length, .bool aZ.dk, .own 4 0 0 aZ.aq.length]), .dead, .dead, .row 0 1 aZ.ar.length 9 (row cS aZ.ar), .row 0 5 aZ.aq.length 64 (row aR.cells aZ.aq)]) (fun yv => uG [.str aZ.ao, .aY 2 aZ.ak.length 61 (row TParam.cells aZ.ak) Ce, .own 2 0 0 aZ.aE.length, .own 3 0 0 aZ.ar.length, .bool aZ.dk, .own 4 0 0 aZ.aq.length] [.str aZ.ao, .aY 2 aZ.ak.length 61 (row TParam.cells aZ.ak) Ce, .aY 2 aZ.aE.length 61 (row TParam.cells aZ.aE) yv, .own 3 0 0 aZ.ar.length, .bool aZ.dk, .own 4 0 0 aZ.aq.length] (bw f11 ma.toNat [.str aZ.ao, .aY 2 aZ.ak.length 61 (row TParam.cells aZ.ak) Ce, .aY 2 aZ.aE.length 61 (row TParam.cells aZ.aE) yv, .own 3 0 0 aZ.ar.length, .bool aZ.dk, .own 4 0 0 aZ.aq.length]) (DR.lt d12 rG) aP aP dR Ag rfl rfl rfl rfl agj rfl) fun yv => (.ab 0 ma.toNat 3 3 (fun yw => [.row 0 6 l1.length 57 (bw f11 ma.toNat [.str aZ.ao, .aY 2 aZ.ak.length 61 (row TParam.cells aZ.ak) Ce, .aY 2 aZ.aE.length 61 (row TParam.cells aZ.aE) yv, .aY 1 aZ.ar.length 9 (row cS aZ.ar) yw, .bool aZ.dk, .own 4 0 0 aZ.aq.length]), .dead, .dead, .dead, .row 0 5 aZ.aq.length 64 (row aR.cells aZ.aq)]) (fun yw => uG [.str aZ.ao, .aY 2 aZ.ak.length 61 (row TParam.cells aZ.ak) Ce, .aY 2 aZ.aE.length 61 (row TParam.cells aZ.aE) yv, .own 3 0 0 aZ.ar.length, .bool aZ.dk, .own 4 0 0 aZ.aq.length] [.str aZ.ao, .aY 2 aZ.ak.length 61 (row TParam.cells aZ.ak) Ce, .aY 2 aZ.aE.length 61 (row TParam.cells aZ.aE) yv, .aY 1 aZ.ar.length 9 (row cS aZ.ar) yw, .bool aZ.dk, .own 4 0 0 aZ.aq.length] (bw f11 ma.toNat [.str aZ.ao, .aY 2 aZ.ak.length 61 (row TParam.cells aZ.ak) Ce, .aY 2 aZ.aE.length 61 (row TParam.cells aZ.aE) yv, .aY 1 aZ.ar.length 9 (row cS aZ.ar) yw, .bool aZ.dk, .own 4 0 0 aZ.aq.length]) (DR.lt d12 rG) aP aP dR Ag rfl rfl rfl rfl agj rfl) fun yw => (.ab 0 ma.toNat 5 4 (fun Fx => [.row 0 6 l1.length 57 (bw f11 ma.toNat [.str aZ.ao, .aY 2 aZ.ak.length 61 (row TParam.cells aZ.ak) Ce, .aY 2 aZ.aE.length 61 (row TParam.cells aZ.aE) yv, .aY 1 aZ.ar.length 9 (row cS aZ.ar) yw, .bool aZ.dk, .aY 5 aZ.aq.length 64 (row aR.cells aZ.aq) Fx]), .dead, .dead, .dead, .dead]) (fun Fx => uG [.str aZ.ao, .aY 2 aZ.ak.length 61 (row TParam.cells aZ.ak) Ce, .aY 2 aZ.aE.length 61 (row TParam.cells aZ.aE) yv, .aY 1 aZ.ar.length 9 (row cS aZ.ar) yw, .bool aZ.dk, .own 4 0 0 aZ.aq.length] [.str aZ.ao, .aY 2 aZ.ak.length 61 (row TParam.cells aZ.ak) Ce, .aY 2 aZ.aE.length 61 (row TParam.cells aZ.aE) yv, .aY 1 aZ.ar.length 9 (row cS aZ.ar) yw, .bool aZ.dk, .aY 5 aZ.aq.length 64 (row aR.cells aZ.aq) Fx] (bw f11 ma.toNat [.str aZ.ao, .aY 2 aZ.ak.length 61 (row TParam.cells aZ.ak) Ce, .aY 2 aZ.aE.length 61 (row TParam.cells aZ.aE) yv, .aY 1 aZ.ar.length 9 (row cS aZ.ar) yw, .bool aZ.dk, .aY 5 aZ.aq.length 64 (row aR.cells aZ.aq) Fx]) (DR.lt d12 rG) aP aP dR Ag rfl rfl rfl rfl agj rfl) fun Fx => ?_))))⟩⟩
 have d32 : DR aC.D l1.length (bw f11 ma.toNat [.str aZ.ao, .aY 2 aZ.ak.length 61 (row TParam.cells aZ.ak) Ce, .aY 2 aZ.aE.length 61 (row TParam.cells aZ.aE) yv, .aY 1 aZ.ar.length 9 (row cS aZ.ar) yw, .bool aZ.dk, .aY 5 aZ.aq.length 64 (row aR.cells aZ.aq) Fx]) (l10.set ma.toNat aZ) := DR.set d12 (gY rG) (aC.vi (x := aZ) rfl rfl rfl rfl : aC.D [.str aZ.ao, .aY 2 aZ.ak.length 61 (row TParam.cells aZ.ak) Ce, .aY 2 aZ.aE.length 61 (row TParam.cells aZ.aE) yv, .aY 1 aZ.ar.length 9 (row cS aZ.ar) yw, .bool aZ.dk, .aY 5 aZ.aq.length 64 (row aR.cells aZ.aq) Fx] aZ)
 exact lg (Ms _ _ _ h (bw f11 ma.toNat [.str aZ.ao, .aY 2 aZ.ak.length 61 (row TParam.cells aZ.ak) Ce, .aY 2 aZ.aE.length 61 (row TParam.cells aZ.aE) yv, .aY 1 aZ.ar.length 9 (row cS aZ.ar) yw, .bool aZ.dk, .aY 5 aZ.aq.length 64 (row aR.cells aZ.aq) Fx]) d32 rfl) (tk [0] ⟨.l, (.od (by first | rfl | exact d32.len | exact d32.len.symm)), .i, ⟨⟩⟩ ⟨(yu d32), ⟨⟩⟩)
 exact afX
 rintro _ _ ⟨l4, f5, d6, rfl, rfl, rfl⟩
 replace h := H8
 refine .d ?_
 exact afB
mutual
def ke (a0 : af) : Option (af) :=
 rH a0.ai >>= fun v1 =>
 some (af.mk a0.aJ a0.bb a0.bm a0.bs v1)
partial_fixpoint
def rH (a0 : List ae) : Option ((List ae)) :=
 (nv 96 (a0.length : Int) (a0.length : Int) : Option (List ae)) >>= fun l5 =>
 (
 iv a0 l5 0
 : Option ((List ae))) >>= fun l8 =>
 some l8
partial_fixpoint
def qg (a0 : ae) : Option (ae) :=
 ke a0.aL >>= fun ze =>
 some (ae.mk a0.aX ze)
partial_fixpoint
def iv (a0 : List ae) (pV : List ae) (la : Int) : Option ((List ae)) :=
 (if la < (a0.length : Int) then
 idx a0 la >>= fun HT =>
 qg HT >>= fun dj =>
 idx pV la >>= fun P7 =>
 iv a0 (pV.set la.toNat dj) (ah (la + 1))
 else
 some pV)
partial_fixpoint
end
def Mv (a0 : af) (r : af) : Prop := ACall Tryz.prog 182 [.agg a0.lit] [] (fun res h => ∃ F0 : Nat → List PV, DR ae.D r.ai.length F0 r.ai ∧ res = .agg [.int .i64 r.aJ, .int .i64 r.bb, .str r.bm, .int .i64 r.bs, .own 0 0 0 r.ai.length] ∧ h = [.row 0 8 r.ai.length 197 F0])
def Mw (a0 : List ae) (r : (List ae)) : Prop := ACall Tryz.prog 195 [sl 8 ae.cells a0] [] (fun res h => ∃ F0 : Nat → List PV, DR ae.D r.length F0 r ∧ res = .own 0 0 0 r.length ∧ h = [.row 0 8 r.length 197 F0])
def DU (a0 : ae) (r : ae) : Prop := ACall Tryz.prog 203 [.agg a0.lit] [] (fun res h => ∃ F0 : Nat → List PV, DR ae.D r.aL.ai.length F0 r.aL.ai ∧ res = .agg [.bool r.aX.cr, .int .i64 r.aX.bb, .str r.aX.bm, .int .i64 r.aL.aJ, .int .i64 r.aL.bb, .str r.aL.bm, .int .i64 r.aL.bs, .own 0 0 0 r.aL.ai.length] ∧ h = [.row 0 8 r.aL.ai.length 197 F0])
inductive dX : (List ae) → (List ae) → Int → ((List ae)) → Prop
 | mk (Mx : ae → Option (ae)) (Xq : ∀ a0 r, Mx a0 = some r → DU a0 r) (fE : (List ae) → (List ae) → Int → Option ((List ae))) (vj : ∀ a0 pV la o, fE a0 pV la = some o → dX a0 pV la o) (a0 : List ae) (pV : List ae) (la : Int) (o : (List ae)) (h : (
 (if la < (a0.length : Int) then
 idx a0 la >>= fun HT =>
 Mx HT >>= fun dj =>
 idx pV la >>= fun P7 =>
 fE a0 (pV.set la.toNat dj) (ah (la + 1))
 else
 some pV)
 ) = some o) : dX a0 pV la o
theorem uH {motive : (List ae) → (List ae) → Int → ((List ae)) → Prop} (step : ∀ (Mx : ae → Option (ae)) (Xq : ∀ a0 r, Mx a0 = some r → DU a0 r) (fE : (List ae) → (List ae) → Int → Option ((List ae))) (vj : ∀ a0 pV la o, fE a0 pV la = some o → dX a0 pV la o) (a0 : List ae) (pV : List ae) (la : Int) (o : (List ae)) (h : (
 (if la < (a0.length : Int) then
 idx a0 la >>= fun HT =>
 Mx HT >>= fun dj =>
 idx pV la >>= fun P7 =>
 fE a0 (pV.set la.toNat dj) (ah (la + 1))
 else
 some pV)
 ) = some o) (ih : ∀ a0 pV la o, fE a0 pV la = some o → motive a0 pV la o), motive a0 pV la o) : ∀ a0 pV la o, dX a0 pV la o → motive a0 pV la o :=
 fun a0 pV la o h => dX.rec (motive := fun a0 pV la o _ => motive a0 pV la o) step h
theorem Ah : (∀ a0 r, ke a0 = some r → Mv a0 r) ∧ (∀ a0 r, rH a0 = some r → Mw a0 r) ∧ (∀ a0 pV la o, iv a0 pV la = some o → dX a0 pV la o) ∧ (∀ a0 r, qg a0 = some r → DU a0 r) := by
 refine ke.mutual_partial_correctness Mv Mw dX DU ?_ ?_ ?_ ?_
 intro _ Th a0 r h
 refine cP Tryz.func182 ?_
 refine .d (.d (.d ⟨rfl, ⟨rfl, _, rfl, ⟨rfl, ⟨rfl, _, fun _ => [.int .i64 a0.aJ, .int .i64 0, .str [], .int .i64 0, .aO], rfl, aM rfl, (.d ⟨rfl, ⟨rfl, _, rfl, ⟨rfl, ⟨rfl, _, fun _ => [.int .i64 a0.aJ, .int .i64 a0.bb, .str [], .int .i64 0, .aO], rfl, aM rfl, (.d ⟨rfl, ⟨rfl, _, rfl, ?_⟩⟩)⟩⟩⟩⟩)⟩⟩⟩⟩))
 refine ⟨rfl, ⟨rfl, _, fun _ => [.int .i64 a0.aJ, .int .i64 a0.bb, .str a0.bm, .int .i64 0, .aO], rfl, aM rfl, (.d ⟨rfl, ⟨rfl, _, rfl, ⟨rfl, ⟨rfl, _, fun _ => [.int .i64 a0.aJ, .int .i64 a0.bb, .str a0.bm, .int .i64 a0.bs, .aO], rfl, aM rfl, (.d ⟨rfl, ⟨rfl, _, rfl, (bk h fun v1 jT h => (xA (Th _ _ jT) ?_))⟩⟩)⟩⟩⟩⟩)⟩⟩
 rintro _ _ ⟨f3, d4, rfl, rfl⟩
 refine ⟨.own 3 0 0 v1.length, [.row 0 5 1 182 (fun _ => a0.lit), .row 0 5 1 97 (fun _ => [.int .i64 0, .int .i64 0, .str [], .int .i64 0, .aO]), .row 0 5 1 97 (fun _ => [.int .i64 a0.aJ, .int .i64 a0.bb, .str a0.bm, .int .i64 a0.bs, .aO]), .row 0 8 v1.length 197 f3], rfl, agD, ⟨rfl, ⟨rfl, _, fun _ => [.int .i64 a0.aJ, .int .i64 a0.bb, .str a0.bm, .int .i64 a0.bs, .own 3 0 0 v1.length], rfl, aM rfl, (.d ⟨rfl, _, rfl, ⟨rfl, _, fun _ => [.int .i64 a0.aJ, .int .i64 a0.bb, .str a0.bm, .int .i64 a0.bs, .own 3 0 0 v1.length], rfl, aM rfl, ?_⟩⟩)⟩⟩⟩
 obtain rfl := si h
 exact ⟨rfl, _, rfl, (en [3] ⟨f3, d4.self, rfl, rfl⟩ (.jZ ⟨.i, .i, .s, .i, (.od agy), ⟨⟩⟩) ⟨(yu d4 d4.len d4.len), ⟨⟩⟩)⟩
 intro _ aaI a0 r h
 refine cP Tryz.func195 ?_
 refine .d (.d (bk h fun l5 WH h => ?_))
 have d7 : DR ae.D l5.length (fun i => bif Nat.blt i l5.length then [.bool false, .int .i64 0, .str [], .int .i64 0, .int .i64 0, .str [], .int .i64 0, .aY 8 0 197 (fun _ => []) (fun _ => False)] else []) l5 := wc WH (ae.vi (x := (default : ae)) DR.nil : ae.D [.bool false, .int .i64 0, .str [], .int .i64 0, .int .i64 0, .str [], .int .i64 0, .aY 8 0 197 (fun _ => []) (fun _ => False)] (default : ae))
 refine ⟨lZ WH, l5.length, (fun i => bif Nat.blt i l5.length then [.bool false, .int .i64 0, .str [], .int .i64 0, .int .i64 0, .str [], .int .i64 0, .aY 8 0 197 (fun _ => []) (fun _ => False)] else []), jI WH, DT rfl ⟨.same _, .same _, .same _, .same _, .same _, .same _, .same _, .we _ _ _, trivial⟩, ?_⟩
 obtain ⟨Ic, aaJ, aaK⟩ := bd h
 replace h := aaJ
 refine .cut (fun σ η => ∃ l8, ∃ f9 : Nat → List PV, DR ae.D l5.length f9 l8 ∧ l8 = Ic ∧ σ = [(3, .own 0 0 0 l5.length)] ∧ η = [.row 0 8 l5.length 197 f9]) ?_ ?_
 refine .d ?_
 have aaL := aaI _ _ _ _ h
 refine le (uH (motive := fun p40 pV la RP => ∀ f15 : Nat → List PV, DR ae.D l5.length f15 pV → a0 = p40 → Ic = RP → az _ _ [(0, sl 8 ae.cells a0), (3, .own 0 0 0 l5.length), (4, .int .i64 la)] [.row 0 8 l5.length 197 f15]) ?_ a0 l5 0 Ic aaL (fun i => bif Nat.blt i l5.length then [.bool false, .int .i64 0, .str [], .int .i64 0, .int .i64 0, .str [], .int .i64 0, .aY 8 0 197 (fun _ => []) (fun _ => False)] else []) d7 rfl rfl) (tk [0] ⟨.l, (.od (by first | rfl | exact d7.len | exact d7.len.symm)), .i, ⟨⟩⟩ ⟨(yu d7), ⟨⟩⟩)
 intro _ aaM _ _ p40 pV la RP h My f15 d16 Ti aaN
 subst Ti
 subst aaN
 refine az.round (.d (.d (sD h (fun pW h => ?_) (fun pW h => ?_))))
 refine .d (bk h fun HT FQ h => ⟨aI FQ, _, (aF FQ).trans (ae.au HT), (bk h fun dj DV h => (xA (aaM _ _ DV) ?_))⟩)
 rintro _ _ ⟨f28, d29, rfl, rfl⟩
 refine ⟨.agg [.bool dj.aX.cr, .int .i64 dj.aX.bb, .str dj.aX.bm, .int .i64 dj.aL.aJ, .int .i64 dj.aL.bb, .str dj.aL.bm, .int .i64 dj.aL.bs, .own 1 0 0 dj.aL.ai.length], [.row 0 8 l5.length 197 f15, .row 0 8 dj.aL.ai.length 197 f28], rfl, (by simp only [aeg, aem, shr, FP d29]; rfl), (bk h fun P7 Ie h => ?_)⟩
 obtain ⟨P8, f33, e35, d34⟩ := ae.ta (DR.idx d16 Ie)
 refine ⟨rfl, DR.bd d16 Ie, _, No _, ⟨rfl, _, (bw f15 la.toNat [.bool dj.aX.cr, .int .i64 dj.aX.bb, .str dj.aX.bm, .int .i64 dj.aL.aJ, .int .i64 dj.aL.bb, .str dj.aL.bm, .int .i64 dj.aL.bs, .own 1 0 0 dj.aL.ai.length]), e35, mT ⟨.same _, .same _, .same _, .same _, .same _, .same _, .same _, .same _, trivial⟩, (.ab 0 la.toNat 7 1 (fun P9 => [.row 0 8 l5.length 197 (bw f15 la.toNat [.bool dj.aX.cr, .int .i64 dj.aX.bb, .str dj.aX.bm, .int .i64 dj.aL.aJ, .int .i64 dj.aL.bb, .str dj.aL.bm, .int .i64 dj.aL.bs, .aY 8 dj.aL.ai.length 197 f28 P9]), .dead]) (fun P9 => uG [.bool dj.aX.cr, .int .i64 dj.aX.bb, .str dj.aX.bm, .int .i64 dj.aL.aJ, .int .i64 dj.aL.bb, .str dj.aL.bm, .int .i64 dj.aL.bs, .own 1 0 0 dj.aL.ai.length] [.bool dj.aX.cr, .int .i64 dj.aX.bb, .str dj.aX.bm, .int .i64 dj.aL.aJ, .int .i64 dj.aL.bb, .str dj.aL.bm, .int .i64 dj.aL.bs, .aY 8 dj.aL.ai.length 197 f28 P9] (bw f15 la.toNat [.bool dj.aX.cr, .int .i64 dj.aX.bb, .str dj.aX.bm, .int .i64 dj.aL.aJ, .int .i64 dj.aL.bb, .str dj.aL.bm, .int .i64 dj.aL.bs, .aY 8 dj.aL.ai.length 197 f28 P9]) (DR.lt d16 Ie) aP aP dR (d29).po rfl rfl rfl rfl agj rfl) fun P9 => ?_)⟩⟩
 have d37 : DR ae.D l5.length (bw f15 la.toNat [.bool dj.aX.cr, .int .i64 dj.aX.bb, .str dj.aX.bm, .int .i64 dj.aL.aJ, .int .i64 dj.aL.bb, .str dj.aL.bm, .int .i64 dj.aL.bs, .aY 8 dj.aL.ai.length 197 f28 P9]) (pV.set la.toNat dj) := DR.set d16 (gY Ie) (ae.vi (x := dj) d29 : ae.D [.bool dj.aX.cr, .int .i64 dj.aX.bb, .str dj.aX.bm, .int .i64 dj.aL.aJ, .int .i64 dj.aL.bb, .str dj.aL.bm, .int .i64 dj.aL.bs, .aY 8 dj.aL.ai.length 197 f28 P9] dj)
 exact lg (My _ _ _ _ h (bw f15 la.toNat [.bool dj.aX.cr, .int .i64 dj.aX.bb, .str dj.aX.bm, .int .i64 dj.aL.aJ, .int .i64 dj.aL.bb, .str dj.aL.bm, .int .i64 dj.aL.bs, .aY 8 dj.aL.ai.length 197 f28 P9]) d37 rfl rfl) (tk [0] ⟨.l, (.od (by first | rfl | exact d37.len | exact d37.len.symm)), .i, ⟨⟩⟩ ⟨(yu d37), ⟨⟩⟩)
 exact ct ⟨_, f15, d16, si h, rfl, rfl⟩ (tk [0] ⟨(.od (by first | rfl | exact d16.len | exact d16.len.symm)), ⟨⟩⟩ ⟨(yu d16), ⟨⟩⟩)
 rintro _ _ ⟨l8, f9, d10, rfl, rfl, rfl⟩
 replace h := aaK
 refine .d ?_
 obtain rfl := si h
 exact en [0] ⟨f9, d10.self, rfl, rfl⟩ ((.od (by first | rfl | exact d10.len | exact d10.len.symm))) ⟨(yu d10 d10.len d10.len), ⟨⟩⟩
 intro F0 F1 B8 B9 a0 pV la o h
 exact .mk F1 B9 F0 B8 a0 pV la o h
 intro _ Tj a0 r h
 refine cP Tryz.func203 ?_
 refine .d (.d (.d ⟨rfl, ⟨rfl, _, rfl, (bO (FM a0.aX) ⟨rfl, ⟨rfl, _, fun _ => [.bool a0.aX.cr, .int .i64 a0.aX.bb, .str a0.aX.bm, .int .i64 0, .int .i64 0, .str [], .int .i64 0, .aO], rfl, aM rfl, (.d ⟨rfl, ⟨rfl, _, rfl, (bk h fun ze Tk h => (xA (Tj _ _ Tk) ?_))⟩⟩)⟩⟩)⟩⟩))
 rintro _ _ ⟨f45, d46, rfl, rfl⟩
 refine ⟨.agg [.int .i64 ze.aJ, .int .i64 ze.bb, .str ze.bm, .int .i64 ze.bs, .own 3 0 0 ze.ai.length], [.row 0 8 1 239 (fun _ => a0.lit), .row 0 8 1 197 (fun _ => [.bool false, .int .i64 0, .str [], .int .i64 0, .int .i64 0, .str [], .int .i64 0, .aO]), .row 0 8 1 197 (fun _ => [.bool a0.aX.cr, .int .i64 a0.aX.bb, .str a0.aX.bm, .int .i64 0, .int .i64 0, .str [], .int .i64 0, .aO]), .row 0 8 ze.ai.length 197 f45], rfl, (by simp only [aeg, aem, shr, FP d46]; rfl), ⟨rfl, ⟨rfl, _, fun _ => [.bool a0.aX.cr, .int .i64 a0.aX.bb, .str a0.aX.bm, .int .i64 ze.aJ, .int .i64 ze.bb, .str ze.bm, .int .i64 ze.bs, .own 3 0 0 ze.ai.length], rfl, aM rfl, (.d ⟨rfl, _, rfl, ⟨rfl, _, fun _ => [.bool a0.aX.cr, .int .i64 a0.aX.bb, .str a0.aX.bm, .int .i64 ze.aJ, .int .i64 ze.bb, .str ze.bm, .int .i64 ze.bs, .own 3 0 0 ze.ai.length], rfl, aM rfl, ?_⟩⟩)⟩⟩⟩
 obtain rfl := si h
 exact ⟨rfl, _, rfl, (en [3] ⟨f45, d46.self, rfl, rfl⟩ (.jZ ⟨.b, .i, .s, .i, .i, .s, .i, (.od (by first | rfl | exact d46.len | exact d46.len.symm)), ⟨⟩⟩) ⟨(yu d46 d46.len d46.len), ⟨⟩⟩)⟩
theorem DW {a0 : af} {r : af} (h : ke a0 = some r) : ACall Tryz.prog 182 [.agg a0.lit] [] (fun res h => ∃ F0 : Nat → List PV, DR ae.D r.ai.length F0 r.ai ∧ res = .agg [.int .i64 r.aJ, .int .i64 r.bb, .str r.bm, .int .i64 r.bs, .own 0 0 0 r.ai.length] ∧ h = [.row 0 8 r.ai.length 197 F0]) := Ah.1 a0 r h
def ny (a0 : aB) : Option (aB) :=
 ke a0.aH >>= fun v1 =>
 some (aB.mk a0.ao a0.bn a0.bc v1)
theorem DX {a0 : aB} {r : aB} (h : ny a0 = some r) : ACall Tryz.prog 147 [.agg a0.lit] [] (fun res h => ∃ F0 : Nat → List PV, DR ae.D r.aH.ai.length F0 r.aH.ai ∧ res = .agg [.str r.ao, .str r.bn, .bool r.bc, .int .i64 r.aH.aJ, .int .i64 r.aH.bb, .str r.aH.bm, .int .i64 r.aH.bs, .own 0 0 0 r.aH.ai.length] ∧ h = [.row 0 8 r.aH.ai.length 197 F0]) := by
 refine cP Tryz.func147 ?_
 unfold ny at h
 refine .d (.d (.d ⟨rfl, ⟨rfl, _, rfl, ⟨rfl, ⟨rfl, _, fun _ => [.str a0.ao, .str [], .bool false, .int .i64 0, .int .i64 0, .str [], .int .i64 0, .aO], rfl, aM rfl, (.d ⟨rfl, ⟨rfl, _, rfl, ⟨rfl, ⟨rfl, _, fun _ => [.str a0.ao, .str a0.bn, .bool false, .int .i64 0, .int .i64 0, .str [], .int .i64 0, .aO], rfl, aM rfl, (.d ⟨rfl, ⟨rfl, _, rfl, ?_⟩⟩)⟩⟩⟩⟩)⟩⟩⟩⟩))
 refine ⟨rfl, ⟨rfl, _, fun _ => [.str a0.ao, .str a0.bn, .bool a0.bc, .int .i64 0, .int .i64 0, .str [], .int .i64 0, .aO], rfl, aM rfl, (.d ⟨rfl, ⟨rfl, _, rfl, (bk h fun v1 jT h => (xA (DW jT) ?_))⟩⟩)⟩⟩
 rintro _ _ ⟨f3, d4, rfl, rfl⟩
 refine ⟨.agg [.int .i64 v1.aJ, .int .i64 v1.bb, .str v1.bm, .int .i64 v1.bs, .own 3 0 0 v1.ai.length], [.row 0 8 1 184 (fun _ => a0.lit), .row 0 8 1 99 (fun _ => [.str [], .str [], .bool false, .int .i64 0, .int .i64 0, .str [], .int .i64 0, .aO]), .row 0 8 1 99 (fun _ => [.str a0.ao, .str a0.bn, .bool a0.bc, .int .i64 0, .int .i64 0, .str [], .int .i64 0, .aO]), .row 0 8 v1.ai.length 197 f3], rfl, agD, ⟨rfl, ⟨rfl, _, fun _ => [.str a0.ao, .str a0.bn, .bool a0.bc, .int .i64 v1.aJ, .int .i64 v1.bb, .str v1.bm, .int .i64 v1.bs, .own 3 0 0 v1.ai.length], rfl, aM rfl, (.d ⟨rfl, _, rfl, ⟨rfl, _, fun _ => [.str a0.ao, .str a0.bn, .bool a0.bc, .int .i64 v1.aJ, .int .i64 v1.bb, .str v1.bm, .int .i64 v1.bs, .own 3 0 0 v1.ai.length], rfl, aM rfl, ?_⟩⟩)⟩⟩⟩
 obtain rfl := si h
 exact ⟨rfl, _, rfl, (en [3] ⟨f3, d4.self, rfl, rfl⟩ (.jZ ⟨.s, .s, .b, .i, .i, .s, .i, (.od agy), ⟨⟩⟩) ⟨(yu d4 d4.len d4.len), ⟨⟩⟩)⟩
def iy (a0 : List aB) (l10 : List aB) (ma : Int) : Option ((List aB)) :=
 (if ma < (a0.length : Int) then
 idx a0 ma >>= fun kH =>
 ny kH >>= fun aZ =>
 idx l10 ma >>= fun Qa =>
 iy a0 (l10.set ma.toNat aZ) (ah (ma + 1))
 else
 some l10)
partial_fixpoint
def mb (a0 : List aB) : Option ((List aB)) :=
 (nv 104 (a0.length : Int) (a0.length : Int) : Option (List aB)) >>= fun l1 =>
 (
 iy a0 l1 0
 : Option ((List aB))) >>= fun l4 =>
 some l4
theorem Cf {a0 : List aB} {r : (List aB)} (h : mb a0 = some r) : ACall Tryz.prog 105 [sl 8 aB.cells a0] [] (fun res h => ∃ F0 : Nat → List PV, DR aB.D r.length F0 r ∧ res = .own 0 0 0 r.length ∧ h = [.row 0 8 r.length 99 F0]) := by
 refine cP Tryz.func105 ?_
 unfold mb at h
 refine .d (.d (bk h fun l1 sZ h => ?_))
 have d3 : DR aB.D l1.length (fun i => bif Nat.blt i l1.length then [.str [], .str [], .bool false, .int .i64 0, .int .i64 0, .str [], .int .i64 0, .aY 8 0 197 (fun _ => []) (fun _ => False)] else []) l1 := wc sZ (aB.vi (x := (default : aB)) DR.nil : aB.D [.str [], .str [], .bool false, .int .i64 0, .int .i64 0, .str [], .int .i64 0, .aY 8 0 197 (fun _ => []) (fun _ => False)] (default : aB))
 refine ⟨lZ sZ, l1.length, (fun i => bif Nat.blt i l1.length then [.str [], .str [], .bool false, .int .i64 0, .int .i64 0, .str [], .int .i64 0, .aY 8 0 197 (fun _ => []) (fun _ => False)] else []), jI sZ, DT rfl ⟨.same _, .same _, .same _, .same _, .same _, .same _, .same _, .we _ _ _, trivial⟩, ?_⟩
 obtain ⟨o7, Mp, H8⟩ := bd h
 replace h := Mp
 refine .cut (fun σ η => ∃ l4, ∃ f5 : Nat → List PV, DR aB.D l1.length f5 l4 ∧ l4 = o7 ∧ σ = [(3, .own 0 0 0 l1.length)] ∧ η = [.row 0 8 l1.length 99 f5]) ?_ ?_
 refine .d ?_
 refine le (iy.partial_correctness a0 (motive := fun l10 ma L3 => ∀ f11 : Nat → List PV, DR aB.D l1.length f11 l10 → o7 = L3 → az _ _ [(0, sl 8 aB.cells a0), (3, .own 0 0 0 l1.length), (4, .int .i64 ma)] [.row 0 8 l1.length 99 f11]) ?_ l1 0 o7 h (fun i => bif Nat.blt i l1.length then [.str [], .str [], .bool false, .int .i64 0, .int .i64 0, .str [], .int .i64 0, .aY 8 0 197 (fun _ => []) (fun _ => False)] else []) d3 rfl) (tk [0] ⟨.l, (.od agJ), .i, ⟨⟩⟩ ⟨(yu d3), ⟨⟩⟩)
 intro F15 Ms l10 ma L3 h f11 d12 Tl
 subst Tl
 refine az.round (.d (.d (sD h (fun lx h => ?_) (fun lx h => ?_))))
 refine .d (bk h fun kH k9 h => ⟨aI k9, _, (aF k9).trans (aB.au kH), (bk h fun aZ Af h => (xA (DX Af) ?_))⟩)
 rintro _ _ ⟨f21, d22, rfl, rfl⟩
 refine ⟨.agg [.str aZ.ao, .str aZ.bn, .bool aZ.bc, .int .i64 aZ.aH.aJ, .int .i64 aZ.aH.bb, .str aZ.aH.bm, .int .i64 aZ.aH.bs, .own 1 0 0 aZ.aH.ai.length], [.row 0 8 l1.length 99 f11, .row 0 8 aZ.aH.ai.length 197 f21], rfl, (by simp only [aeg, aem, shr, FP d22]; rfl), (bk h fun Qa uI h => ?_)⟩
 obtain ⟨F25, f26, e28, d27⟩ := aB.ta (DR.idx d12 uI)
 refine ⟨rfl, DR.bd d12 uI, _, No _, ⟨rfl, _, (bw f11 ma.toNat [.str aZ.ao, .str aZ.bn, .bool aZ.bc, .int .i64 aZ.aH.aJ, .int .i64 aZ.aH.bb, .str aZ.aH.bm, .int .i64 aZ.aH.bs, .own 1 0 0 aZ.aH.ai.length]), e28, mT ⟨.same _, .same _, .same _, .same _, .same _, .same _, .same _, .same _, trivial⟩, (.ab 0 ma.toNat 7 1 (fun yv => [.row 0 8 l1.length 99 (bw f11 ma.toNat [.str aZ.ao, .str aZ.bn, .bool aZ.bc, .int .i64 aZ.aH.aJ, .int .i64 aZ.aH.bb, .str aZ.aH.bm, .int .i64 aZ.aH.bs, .aY 8 aZ.aH.ai.length 197 f21 yv]), .dead]) (fun yv => uG [.str aZ.ao, .str aZ.bn, .bool aZ.bc, .int .i64 aZ.aH.aJ, .int .i64 aZ.aH.bb, .str aZ.aH.bm, .int .i64 aZ.aH.bs, .own 1 0 0 aZ.aH.ai.length] [.str aZ.ao, .str aZ.bn, .bool aZ.bc, .int .i64 aZ.aH.aJ, .int .i64 aZ.aH.bb, .str aZ.aH.bm, .int .i64 aZ.aH.bs, .aY 8 aZ.aH.ai.length 197 f21 yv] (bw f11 ma.toNat [.str aZ.ao, .str aZ.bn, .bool aZ.bc, .int .i64 aZ.aH.aJ, .int .i64 aZ.aH.bb, .str aZ.aH.bm, .int .i64 aZ.aH.bs, .aY 8 aZ.aH.ai.length 197 f21 yv]) (DR.lt d12 uI) aP aP dR (d22).po rfl rfl rfl rfl agj rfl) fun yv => ?_)⟩⟩
 have d30 : DR aB.D l1.length (bw f11 ma.toNat [.str aZ.ao, .str aZ.bn, .bool aZ.bc, .int .i64 aZ.aH.aJ, .int .i64 aZ.aH.bb, .str aZ.aH.bm, .int .i64 aZ.aH.bs, .aY 8 aZ.aH.ai.length 197 f21 yv]) (l10.set ma.toNat aZ) := DR.set d12 (gY uI) (aB.vi (x := aZ) d22 : aB.D [.str aZ.ao, .str aZ.bn, .bool aZ.bc, .int .i64 aZ.aH.aJ, .int .i64 aZ.aH.bb, .str aZ.aH.bm, .int .i64 aZ.aH.bs, .aY 8 aZ.aH.ai.length 197 f21 yv] aZ)
 exact lg (Ms _ _ _ h (bw f11 ma.toNat [.str aZ.ao, .str aZ.bn, .bool aZ.bc, .int .i64 aZ.aH.aJ, .int .i64 aZ.aH.bb, .str aZ.aH.bm, .int .i64 aZ.aH.bs, .aY 8 aZ.aH.ai.length 197 f21 yv]) d30 rfl) (tk [0] ⟨.l, (.od (by first | rfl | exact d30.len | exact d30.len.symm)), .i, ⟨⟩⟩ ⟨(yu d30), ⟨⟩⟩)
 exact afX
 rintro _ _ ⟨l4, f5, d6, rfl, rfl, rfl⟩
 replace h := H8
 refine .d ?_
 exact afB
def nz (a0 : aw) : Option (aw) :=
 mb a0.aA >>= fun v1 =>
 k8 a0.av >>= fun v5 =>
 some (aw.mk a0.ao a0.bD v1 v5)
theorem DY {a0 : aw} {r : aw} (h : nz a0 = some r) : ACall Tryz.prog 53 [.agg a0.lit] [] (fun res h => ∃ F0 : Nat → List PV, DR aB.D r.aA.length F0 r.aA ∧ res = .agg [.str r.ao, .str r.bD, .own 0 0 0 r.aA.length, .own 1 0 0 r.av.length] ∧ h = [.row 0 8 r.aA.length 99 F0, .row 0 5 r.av.length 106 (row ax.cells r.av)]) := by
 refine cP Tryz.func53 ?_
 unfold nz at h
 refine .d (.d (.d ⟨rfl, ⟨rfl, _, rfl, ⟨rfl, ⟨rfl, _, fun _ => [.str a0.ao, .str [], .aO, .aO], rfl, aM rfl, (.d ⟨rfl, ⟨rfl, _, rfl, ⟨rfl, ⟨rfl, _, fun _ => [.str a0.ao, .str a0.bD, .aO, .aO], rfl, aM rfl, (.d ⟨rfl, ⟨rfl, _, rfl, ?_⟩⟩)⟩⟩⟩⟩)⟩⟩⟩⟩))
 refine bk h fun v1 jT h => (xA (Cf jT) ?_)
 rintro _ _ ⟨f3, d4, rfl, rfl⟩
 refine ⟨.own 3 0 0 v1.length, [.row 0 4 1 94 (fun _ => a0.lit), .row 0 4 1 68 (fun _ => [.str [], .str [], .aO, .aO]), .row 0 4 1 68 (fun _ => [.str a0.ao, .str a0.bD, .aO, .aO]), .row 0 8 v1.length 99 f3], rfl, agD, ⟨rfl, ⟨rfl, _, fun _ => [.str a0.ao, .str a0.bD, .own 3 0 0 v1.length, .aO], rfl, aM rfl, (.d ⟨rfl, ⟨rfl, _, rfl, (bk h fun v5 DJ h => (P6 (Ae DJ) (.own 4 0 0 v5.length) [.row 0 4 1 94 (fun _ => a0.lit), .row 0 4 1 68 (fun _ => [.str [], .str [], .aO, .aO]), .row 0 4 1 68 (fun _ => [.str a0.ao, .str a0.bD, .own 3 0 0 v1.length, .aO]), .row 0 8 v1.length 99 f3, .row 0 5 v5.length 106 (row ax.cells v5)] ⟨rfl, ⟨rfl, _, fun _ => [.str a0.ao, .str a0.bD, .own 3 0 0 v1.length, .own 4 0 0 v5.length], rfl, aM rfl, (.d ⟨rfl, _, rfl, ⟨rfl, _, fun _ => [.str a0.ao, .str a0.bD, .own 3 0 0 v1.length, .own 4 0 0 v5.length], rfl, aM rfl, ?_⟩⟩)⟩⟩))⟩⟩)⟩⟩⟩
 obtain rfl := si h
 exact ⟨rfl, _, rfl, (en [3, 4] ⟨f3, d4.self, rfl, rfl⟩ (.jZ ⟨.s, .s, (.od agy), .o, ⟨⟩⟩) ⟨(yu d4 d4.len d4.len), nw, ⟨⟩⟩)⟩
def iz (a0 : List aw) (l10 : List aw) (ma : Int) : Option ((List aw)) :=
 (if ma < (a0.length : Int) then
 idx a0 ma >>= fun kH =>
 nz kH >>= fun aZ =>
 idx l10 ma >>= fun Qa =>
 iz a0 (l10.set ma.toNat aZ) (ah (ma + 1))
 else
 some l10)
partial_fixpoint
def me (a0 : List aw) : Option ((List aw)) :=
 (nv 80 (a0.length : Int) (a0.length : Int) : Option (List aw)) >>= fun l1 =>
 (
 iz a0 l1 0
 : Option ((List aw))) >>= fun l4 =>
 some l4
theorem Cg {a0 : List aw} {r : (List aw)} (h : me a0 = some r) : ACall Tryz.prog 23 [sl 4 aw.cells a0] [] (fun res h => ∃ F0 : Nat → List PV, DR aw.D r.length F0 r ∧ res = .own 0 0 0 r.length ∧ h = [.row 0 4 r.length 68 F0]) := by
 refine cP Tryz.func23 ?_
 unfold me at h
 refine .d (.d (bk h fun l1 sZ h => ?_))
 have d3 : DR aw.D l1.length (fun i => bif Nat.blt i l1.length then [.str [], .str [], .aY 8 0 99 (fun _ => []) (fun _ => False), .aY 5 0 106 (row ax.cells ([] : List ax)) (fun _ => False)] else []) l1 := wc sZ (aw.vi (x := (default : aw)) DR.nil rfl : aw.D [.str [], .str [], .aY 8 0 99 (fun _ => []) (fun _ => False), .aY 5 0 106 (row ax.cells ([] : List ax)) (fun _ => False)] (default : aw))
 refine ⟨lZ sZ, l1.length, (fun i => bif Nat.blt i l1.length then [.str [], .str [], .aY 8 0 99 (fun _ => []) (fun _ => False), .aY 5 0 106 (row ax.cells ([] : List ax)) (fun _ => False)] else []), jI sZ, DT rfl ⟨.same _, .same _, .we _ _ _, .we _ _ _, trivial⟩, ?_⟩
 obtain ⟨o7, Mp, H8⟩ := bd h
 replace h := Mp
 refine .cut (fun σ η => ∃ l4, ∃ f5 : Nat → List PV, DR aw.D l1.length f5 l4 ∧ l4 = o7 ∧ σ = [(3, .own 0 0 0 l1.length)] ∧ η = [.row 0 4 l1.length 68 f5]) ?_ ?_
 refine .d ?_
 refine le (iz.partial_correctness a0 (motive := fun l10 ma Fw => ∀ f11 : Nat → List PV, DR aw.D l1.length f11 l10 → o7 = Fw → az _ _ [(0, sl 4 aw.cells a0), (3, .own 0 0 0 l1.length), (4, .int .i64 ma)] [.row 0 4 l1.length 68 f11]) ?_ l1 0 o7 h (fun i => bif Nat.blt i l1.length then [.str [], .str [], .aY 8 0 99 (fun _ => []) (fun _ => False), .aY 5 0 106 (row ax.cells ([] : List ax)) (fun _ => False)] else []) d3 rfl) (tk [0] ⟨.l, (.od agJ), .i, ⟨⟩⟩ ⟨(yu d3), ⟨⟩⟩)
 intro F15 Ms l10 ma Fw h f11 d12 Mt
 subst Mt
 refine az.round (.d (.d (sD h (fun lx h => ?_) (fun lx h => ?_))))
 refine .d (bk h fun kH k9 h => ⟨aI k9, _, (aF k9).trans (aw.au kH), (bk h fun aZ Af h => (xA (DY Af) ?_))⟩)
 rintro _ _ ⟨f21, d22, rfl, rfl⟩
 refine ⟨.agg [.str aZ.ao, .str aZ.bD, .own 1 0 0 aZ.aA.length, .own 2 0 0 aZ.av.length], [.row 0 4 l1.length 68 f11, .row 0 8 aZ.aA.length 99 f21, .row 0 5 aZ.av.length 106 (row ax.cells aZ.av)], rfl, (by simp only [aeg, aem, shr, FP d22]; rfl), (bk h fun Qa uI h => ?_)⟩
 obtain ⟨F25, f26, Ce, e29, d27⟩ := aw.ta (DR.idx d12 uI)
 refine ⟨rfl, DR.bd d12 uI, _, No _, ⟨rfl, _, (bw f11 ma.toNat [.str aZ.ao, .str aZ.bD, .own 1 0 0 aZ.aA.length, .own 2 0 0 aZ.av.length]), e29, mT ⟨.same _, .same _, .same _, .same _, trivial⟩, (.ab 0 ma.toNat 2 1 (fun yw => [.row 0 4 l1.length 68 (bw f11 ma.toNat [.str aZ.ao, .str aZ.bD, .aY 8 aZ.aA.length 99 f21 yw, .own 2 0 0 aZ.av.length]), .dead, .row 0 5 aZ.av.length 106 (row ax.cells aZ.av)]) (fun yw => uG [.str aZ.ao, .str aZ.bD, .own 1 0 0 aZ.aA.length, .own 2 0 0 aZ.av.length] [.str aZ.ao, .str aZ.bD, .aY 8 aZ.aA.length 99 f21 yw, .own 2 0 0 aZ.av.length] (bw f11 ma.toNat [.str aZ.ao, .str aZ.bD, .aY 8 aZ.aA.length 99 f21 yw, .own 2 0 0 aZ.av.length]) (DR.lt d12 uI) aP aP dR (d22).po rfl rfl rfl rfl agj rfl) fun yw => (.ab 0 ma.toNat 3 2 (fun Fx => [.row 0 4 l1.length 68 (bw f11 ma.toNat [.str aZ.ao, .str aZ.bD, .aY 8 aZ.aA.length 99 f21 yw, .aY 5 aZ.av.length 106 (row ax.cells aZ.av) Fx]), .dead, .dead]) (fun Fx => uG [.str aZ.ao, .str aZ.bD, .aY 8 aZ.aA.length 99 f21 yw, .own 2 0 0 aZ.av.length] [.str aZ.ao, .str aZ.bD, .aY 8 aZ.aA.length 99 f21 yw, .aY 5 aZ.av.length 106 (row ax.cells aZ.av) Fx] (bw f11 ma.toNat [.str aZ.ao, .str aZ.bD, .aY 8 aZ.aA.length 99 f21 yw, .aY 5 aZ.av.length 106 (row ax.cells aZ.av) Fx]) (DR.lt d12 uI) aP aP dR Ag rfl rfl rfl rfl agj rfl) fun Fx => ?_))⟩⟩
 have d32 : DR aw.D l1.length (bw f11 ma.toNat [.str aZ.ao, .str aZ.bD, .aY 8 aZ.aA.length 99 f21 yw, .aY 5 aZ.av.length 106 (row ax.cells aZ.av) Fx]) (l10.set ma.toNat aZ) := DR.set d12 (gY uI) (aw.vi (x := aZ) d22 rfl : aw.D [.str aZ.ao, .str aZ.bD, .aY 8 aZ.aA.length 99 f21 yw, .aY 5 aZ.av.length 106 (row ax.cells aZ.av) Fx] aZ)
 exact lg (Ms _ _ _ h (bw f11 ma.toNat [.str aZ.ao, .str aZ.bD, .aY 8 aZ.aA.length 99 f21 yw, .aY 5 aZ.av.length 106 (row ax.cells aZ.av) Fx]) d32 rfl) (tk [0] ⟨.l, (.od (by first | rfl | exact d32.len | exact d32.len.symm)), .i, ⟨⟩⟩ ⟨(yu d32), ⟨⟩⟩)
 exact afX
 rintro _ _ ⟨l4, f5, d6, rfl, rfl, rfl⟩
 replace h := H8
 refine .d ?_
 exact afB
def gg (a0 : aD) : Option (aD) :=
 nx a0.aG >>= fun v1 =>
 me a0.ay >>= fun v5 =>
 some (aD.mk v1 v5)
theorem mf {a0 : aD} {r : aD} (h : gg a0 = some r) : ACall Tryz.prog 7 [.agg a0.lit] [] (fun res h => ∃ F0 : Nat → List PV, ∃ F1 : Nat → List PV, DR aC.D r.aG.length F0 r.aG ∧ DR aw.D r.ay.length F1 r.ay ∧ res = .agg [.own 0 0 0 r.aG.length, .own 1 0 0 r.ay.length] ∧ h = [.row 0 6 r.aG.length 57 F0, .row 0 4 r.ay.length 68 F1]) := by
 refine cP Tryz.func7 ?_
 unfold gg at h
 refine .d (.d (.d ⟨rfl, ⟨rfl, _, rfl, (bk h fun v1 jT h => (xA (DS jT) ?_))⟩⟩))
 rintro _ _ ⟨f3, d4, rfl, rfl⟩
 refine ⟨.own 3 0 0 v1.length, [.row 0 2 1 25 (fun _ => a0.lit), .row 0 2 1 33 (fun _ => [.aO, .aO]), .row 0 2 1 33 (fun _ => [.aO, .aO]), .row 0 6 v1.length 57 f3], rfl, agD, ⟨rfl, ⟨rfl, _, fun _ => [.own 3 0 0 v1.length, .aO], rfl, aM rfl, (.d ⟨rfl, ⟨rfl, _, rfl, (bk h fun v5 DJ h => (xA (Cg DJ) ?_))⟩⟩)⟩⟩⟩
 rintro _ _ ⟨f7, d8, rfl, rfl⟩
 refine ⟨.own 4 0 0 v5.length, [.row 0 2 1 25 (fun _ => a0.lit), .row 0 2 1 33 (fun _ => [.aO, .aO]), .row 0 2 1 33 (fun _ => [.own 3 0 0 v1.length, .aO]), .row 0 6 v1.length 57 f3, .row 0 4 v5.length 68 f7], rfl, (by simp only [aeg, aem, shr, FP d8]; rfl), ⟨rfl, ⟨rfl, _, fun _ => [.own 3 0 0 v1.length, .own 4 0 0 v5.length], rfl, aM rfl, (.d ⟨rfl, _, rfl, ⟨rfl, _, fun _ => [.own 3 0 0 v1.length, .own 4 0 0 v5.length], rfl, aM rfl, ?_⟩⟩)⟩⟩⟩
 obtain rfl := si h
 exact ⟨rfl, _, rfl, (en [3, 4] ⟨f3, f7, d4.self, d8.self, rfl, rfl⟩ (.jZ ⟨(.od agy), (.od (by first | rfl | exact d8.len | exact d8.len.symm)), ⟨⟩⟩) ⟨(yu d4 d4.len d4.len), (yu d8 d8.len d8.len), ⟨⟩⟩)⟩
set_option maxRecDepth 100000
def qV (a0 : aR) (a1 : aR) : Option (Bool) :=
 (if a0.aW = a1.aW then
 (if a0.fA = a1.fA then
 (if a0.fB = a1.fB then
 (if a0.fS = a1.fS then
 (if a0.fT = a1.fT then
 some true
 else
 some false)
 else
 some false)
 else
 some false)
 else
 some false)
 else
 some false)
theorem Ig {a0 : aR} {a1 : aR} {r : Bool} (h : qV a0 a1 = some r) : ACall Tryz.prog 162 [.agg a0.lit, .agg a1.lit] [] (fun res h => res = .bool r ∧ h = []) := by
 refine cP Tryz.func162 ?_
 unfold qV at h
 refine .d (.d (.d ⟨rfl, ⟨rfl, _, rfl, ⟨rfl, ⟨rfl, _, rfl, (sN h (fun de h => ?_) (fun de h => ?_))⟩⟩⟩⟩))
 exact afJ
 refine .d (.d ⟨rfl, ⟨rfl, _, rfl, ⟨rfl, ⟨rfl, _, rfl, (sN h (fun jr h => ?_) (fun jr h => ?_))⟩⟩⟩⟩)
 exact afJ
 refine .d (.d ⟨rfl, ⟨rfl, _, rfl, ⟨rfl, ⟨rfl, _, rfl, (sN h (fun lJ h => ?_) (fun lJ h => ?_))⟩⟩⟩⟩)
 exact afJ
 refine .d (.d ⟨rfl, ⟨rfl, _, rfl, ⟨rfl, ⟨rfl, _, rfl, (tc h (fun oL h => ?_) (fun oL h => ?_))⟩⟩⟩⟩)
 exact afJ
 refine .d (.d ⟨rfl, ⟨rfl, _, rfl, ⟨rfl, ⟨rfl, _, rfl, (tc h (fun nW h => ?_) (fun nW h => ?_))⟩⟩⟩⟩)
 exact afJ
 exact afJ
def nA (a0 : TParam) (a1 : TParam) : Option (Bool) :=
 (if a0.ao = a1.ao then
 (if a0.vh = a1.vh then
 some true
 else
 some false)
 else
 some false)
theorem DZ {a0 : TParam} {a1 : TParam} {r : Bool} (h : nA a0 a1 = some r) : ACall Tryz.prog 161 [.agg a0.lit, .agg a1.lit] [] (fun res h => res = .bool r ∧ h = []) := by
 refine cP Tryz.func161 ?_
 unfold nA at h
 refine .d (.d (.d ⟨rfl, ⟨rfl, _, rfl, ⟨rfl, ⟨rfl, _, rfl, (tc h (fun de h => ?_) (fun de h => ?_))⟩⟩⟩⟩))
 exact afJ
 refine .d (.d ⟨rfl, ⟨rfl, _, rfl, ⟨rfl, ⟨rfl, _, rfl, (tc h (fun jr h => ?_) (fun jr h => ?_))⟩⟩⟩⟩)
 exact afJ
 exact afJ
def jJ (a0 : List aR) (a1 : List aR) (y5 : Int) : Option ((Unit) ⊕ Bool) :=
 (if y5 < (a0.length : Int) then
 idx a0 y5 >>= fun x9 =>
 idx a1 y5 >>= fun kP =>
 qV x9 kP >>= fun qd =>
 (if qd = true then
 jJ a0 a1 (ah (y5 + 1))
 else
 some (.inr false))
 else
 some (.inl ()))
partial_fixpoint
def oV (a0 : List aR) (a1 : List aR) : Option (Bool) :=
 (if (a0.length : Int) = (a1.length : Int) then
 ((
 jJ a0 a1 0
 : Option ((Unit) ⊕ Bool)) >>= fun o2 => match o2 with
 | .inr r => some r
 | .inl _ =>
 some true
 )
 else
 some false)
theorem FR {a0 : List aR} {a1 : List aR} {r : Bool} (h : oV a0 a1 = some r) : ACall Tryz.prog 118 [sl 5 aR.cells a0, sl 5 aR.cells a1] [] (fun res h => res = .bool r ∧ h = []) := by
 refine cP Tryz.func118 ?_
 unfold oV at h
 refine .d (.d (.d (sN h (fun de h => ?_) (fun de h => ?_))))
 exact afJ
 obtain ⟨o2, qD, nB⟩ := bd h
 replace h := qD
 refine .cut (fun σ η => .inl () = o2 ∧ σ = [] ∧ η = []) ?_ ?_
 refine .d ?_
 refine le (jJ.partial_correctness a0 a1 (motive := fun y5 lW => o2 = lW → az _ _ [(0, sl 5 aR.cells a0), (1, sl 5 aR.cells a1), (5, .int .i64 y5)] []) ?_ 0 o2 h rfl) (tk [] ⟨.l, .l, .i, ⟨⟩⟩ ⟨⟩)
 intro F7 BZ y5 lW h kc
 subst kc
 refine az.round (.d (.d (sD h (fun nh h => ?_) (fun nh h => ?_))))
 refine .d (.d (.float [(0, true), (1, true), (2, true), (3, true), (4, true), (5, true), (6, true), (7, true), (8, false), (9, true)] agr ?_))
 refine bk h fun x9 jA h => ⟨aI jA, _, (aF jA).trans (aR.au x9), (bk h fun kP dT h => ⟨aI dT, _, (aF dT).trans (aR.au kP), (bk h fun qd nY h => (bO (Ig nY) (j3 h (fun dI h => ?_) (fun dI h => ?_))))⟩)⟩
 refine .d ?_
 exact afp
 exact afU
 exact afN
 exact afl
def iA (a0 : List TParam) (a1 : List TParam) (y5 : Int) : Option ((Unit) ⊕ Bool) :=
 (if y5 < (a0.length : Int) then
 idx a0 y5 >>= fun x9 =>
 idx a1 y5 >>= fun kP =>
 nA x9 kP >>= fun qd =>
 (if qd = true then
 iA a0 a1 (ah (y5 + 1))
 else
 some (.inr false))
 else
 some (.inl ()))
partial_fixpoint
def kL (a0 : List TParam) (a1 : List TParam) : Option (Bool) :=
 (if (a0.length : Int) = (a1.length : Int) then
 ((
 iA a0 a1 0
 : Option ((Unit) ⊕ Bool)) >>= fun o2 => match o2 with
 | .inr r => some r
 | .inl _ =>
 some true
 )
 else
 some false)
theorem uU {a0 : List TParam} {a1 : List TParam} {r : Bool} (h : kL a0 a1 = some r) : ACall Tryz.prog 116 [sl 2 TParam.cells a0, sl 2 TParam.cells a1] [] (fun res h => res = .bool r ∧ h = []) := by
 refine cP Tryz.func116 ?_
 unfold kL at h
 refine .d (.d (.d (sN h (fun de h => ?_) (fun de h => ?_))))
 exact afJ
 obtain ⟨o2, qD, nB⟩ := bd h
 replace h := qD
 refine .cut (fun σ η => .inl () = o2 ∧ σ = [] ∧ η = []) ?_ ?_
 refine .d ?_
 refine le (iA.partial_correctness a0 a1 (motive := fun y5 lW => o2 = lW → az _ _ [(0, sl 2 TParam.cells a0), (1, sl 2 TParam.cells a1), (5, .int .i64 y5)] []) ?_ 0 o2 h rfl) (tk [] ⟨.l, .l, .i, ⟨⟩⟩ ⟨⟩)
 intro F7 BZ y5 lW h kc
 subst kc
 refine az.round (.d (.d (sD h (fun nh h => ?_) (fun nh h => ?_))))
 refine .d (.d (.float [(0, true), (1, true), (2, true), (3, true), (4, true), (5, true), (6, true), (7, true), (8, false), (9, true)] agr ?_))
 refine bk h fun x9 jA h => ⟨aI jA, _, (aF jA).trans (TParam.au x9), (bk h fun kP dT h => ⟨aI dT, _, (aF dT).trans (TParam.au kP), (bk h fun qd nY h => (bO (DZ nY) (j3 h (fun dI h => ?_) (fun dI h => ?_))))⟩)⟩
 refine .d ?_
 exact afp
 exact afU
 exact afN
 exact afl
def gG (a0 : List ba) (a1 : List ba) (y5 : Int) : Option ((Unit) ⊕ Bool) :=
 (if y5 < (a0.length : Int) then
 idx a0 y5 >>= fun x9 =>
 idx a1 y5 >>= fun kP =>
 (if x9 = kP then
 gG a0 a1 (ah (y5 + 1))
 else
 some (.inr false))
 else
 some (.inl ()))
partial_fixpoint
def lb (a0 : List ba) (a1 : List ba) : Option (Bool) :=
 (if (a0.length : Int) = (a1.length : Int) then
 ((
 gG a0 a1 0
 : Option ((Unit) ⊕ Bool)) >>= fun o2 => match o2 with
 | .inr r => some r
 | .inl _ =>
 some true
 )
 else
 some false)
theorem Ai {a0 : List ba} {a1 : List ba} {r : Bool} (h : lb a0 a1 = some r) : ACall Tryz.prog 117 [sl 1 cS a0, sl 1 cS a1] [] (fun res h => res = .bool r ∧ h = []) := by
 refine cP Tryz.func117 ?_
 unfold lb at h
 refine .d (.d (.d (sN h (fun de h => ?_) (fun de h => ?_))))
 exact afJ
 obtain ⟨o2, qD, nB⟩ := bd h
 replace h := qD
 refine .cut (fun σ η => .inl () = o2 ∧ σ = [] ∧ η = []) ?_ ?_
 refine .d ?_
 refine le (gG.partial_correctness a0 a1 (motive := fun y5 HS => o2 = HS → az _ _ [(0, sl 1 cS a0), (1, sl 1 cS a1), (5, .int .i64 y5)] []) ?_ 0 o2 h rfl) (tk [] ⟨.l, .l, .i, ⟨⟩⟩ ⟨⟩)
 intro F7 BZ y5 HS h Ml
 subst Ml
 refine az.round (.d (.d (sD h (fun nh h => ?_) (fun nh h => ?_))))
 refine .d (.d (bk h fun x9 jA h => ⟨aI jA, _, (aF jA).trans rfl, (bk h fun kP dT h => ⟨aI dT, _, (aF dT).trans rfl, (tc h (fun jS h => ?_) (fun jS h => ?_))⟩)⟩))
 refine .d ?_
 exact afp
 exact afU
 exact afN
 exact afl
def oW (a0 : aC) (a1 : aC) : Option (Bool) :=
 (if a0.ao = a1.ao then
 kL a0.ak a1.ak >>= fun v2 =>
 (if v2 = true then
 kL a0.aE a1.aE >>= fun v5 =>
 (if v5 = true then
 lb a0.ar a1.ar >>= fun v8 =>
 (if v8 = true then
 (if a0.dk = a1.dk then
 oV a0.aq a1.aq >>= fun v12 =>
 (if v12 = true then
 some true
 else
 some false)
 else
 some false)
 else
 some false)
 else
 some false)
 else
 some false)
 else
 some false)
theorem FU {a0 : aC} {a1 : aC} {r : Bool} (h : oW a0 a1 = some r) : ACall Tryz.prog 63 [.agg a0.lit, .agg a1.lit] [] (fun res h => res = .bool r ∧ h = []) := by
 refine cP Tryz.func63 ?_
 unfold oW at h
 refine .d (.d (.d ⟨rfl, ⟨rfl, _, rfl, ⟨rfl, ⟨rfl, _, rfl, (tc h (fun de h => ?_) (fun de h => ?_))⟩⟩⟩⟩))
 exact afJ
 refine .d (.d ⟨rfl, ⟨rfl, _, rfl, ⟨rfl, ⟨rfl, _, rfl, (bk h fun v2 DI h => (bO (uU DI) (j3 h (fun oL h => ?_) (fun oL h => ?_))))⟩⟩⟩⟩)
 exact afJ
 refine .d (.d ⟨rfl, ⟨rfl, _, rfl, ⟨rfl, ⟨rfl, _, rfl, (bk h fun v5 DJ h => (bO (uU DJ) (j3 h (fun pT h => ?_) (fun pT h => ?_))))⟩⟩⟩⟩)
 exact afJ
 refine .d (.d ⟨rfl, ⟨rfl, _, rfl, ⟨rfl, ⟨rfl, _, rfl, (bk h fun v8 Xo h => (bO (Ai Xo) (j3 h (fun eY h => ?_) (fun eY h => ?_))))⟩⟩⟩⟩)
 exact afJ
 refine .d (.d ⟨rfl, ⟨rfl, _, rfl, ⟨rfl, ⟨rfl, _, rfl, (tc h (fun jU h => ?_) (fun jU h => ?_))⟩⟩⟩⟩)
 exact afJ
 refine .d (.d ⟨rfl, ⟨rfl, _, rfl, ⟨rfl, ⟨rfl, _, rfl, (bk h fun v12 KS h => (bO (FR KS) (j3 h (fun kU h => ?_) (fun kU h => ?_))))⟩⟩⟩⟩)
 exact afJ
 exact afJ
def jg (a0 : List aC) (a1 : List aC) (y5 : Int) : Option ((Unit) ⊕ Bool) :=
 (if y5 < (a0.length : Int) then
 idx a0 y5 >>= fun x9 =>
 idx a1 y5 >>= fun kP =>
 oW x9 kP >>= fun qd =>
 (if qd = true then
 jg a0 a1 (ah (y5 + 1))
 else
 some (.inr false))
 else
 some (.inl ()))
partial_fixpoint
def nC (a0 : List aC) (a1 : List aC) : Option (Bool) :=
 (if (a0.length : Int) = (a1.length : Int) then
 ((
 jg a0 a1 0
 : Option ((Unit) ⊕ Bool)) >>= fun o2 => match o2 with
 | .inr r => some r
 | .inl _ =>
 some true
 )
 else
 some false)
theorem D0 {a0 : List aC} {a1 : List aC} {r : Bool} (h : nC a0 a1 = some r) : ACall Tryz.prog 29 [sl 6 aC.cells a0, sl 6 aC.cells a1] [] (fun res h => res = .bool r ∧ h = []) := by
 refine cP Tryz.func29 ?_
 unfold nC at h
 refine .d (.d (.d (sN h (fun de h => ?_) (fun de h => ?_))))
 exact afJ
 obtain ⟨o2, qD, nB⟩ := bd h
 replace h := qD
 refine .cut (fun σ η => .inl () = o2 ∧ σ = [] ∧ η = []) ?_ ?_
 refine .d ?_
 refine le (jg.partial_correctness a0 a1 (motive := fun y5 lW => o2 = lW → az _ _ [(0, sl 6 aC.cells a0), (1, sl 6 aC.cells a1), (5, .int .i64 y5)] []) ?_ 0 o2 h rfl) (tk [] ⟨.l, .l, .i, ⟨⟩⟩ ⟨⟩)
 intro F7 BZ y5 lW h kc
 subst kc
 refine az.round (.d (.d (sD h (fun nh h => ?_) (fun nh h => ?_))))
 refine .d (.d (.float [(0, true), (1, true), (2, true), (3, true), (4, true), (5, true), (6, true), (7, true), (8, false), (9, true)] agr ?_))
 refine bk h fun x9 jA h => ⟨aI jA, _, (aF jA).trans (aC.au x9), (bk h fun kP dT h => ⟨aI dT, _, (aF dT).trans (aC.au kP), (bk h fun qd nY h => (bO (FU nY) (j3 h (fun dI h => ?_) (fun dI h => ?_))))⟩)⟩
 refine .d ?_
 exact afp
 exact afU
 exact afN
 exact afl
def qW (a0 : bJ) (a1 : bJ) : Option (Bool) :=
 (if a0.cr = a1.cr then
 (if a0.bb = a1.bb then
 (if a0.bm = a1.bm then
 some true
 else
 some false)
 else
 some false)
 else
 some false)
theorem Ih {a0 : bJ} {a1 : bJ} {r : Bool} (h : qW a0 a1 = some r) : ACall Tryz.prog 214 [.agg a0.lit, .agg a1.lit] [] (fun res h => res = .bool r ∧ h = []) := by
 refine cP Tryz.func214 ?_
 unfold qW at h
 refine .d (.d (.d ⟨rfl, ⟨rfl, _, rfl, ⟨rfl, ⟨rfl, _, rfl, (tc h (fun de h => ?_) (fun de h => ?_))⟩⟩⟩⟩))
 exact afJ
 refine .d (.d ⟨rfl, ⟨rfl, _, rfl, ⟨rfl, ⟨rfl, _, rfl, (sN h (fun jr h => ?_) (fun jr h => ?_))⟩⟩⟩⟩)
 exact afJ
 refine .d (.d ⟨rfl, ⟨rfl, _, rfl, ⟨rfl, ⟨rfl, _, rfl, (tc h (fun lJ h => ?_) (fun lJ h => ?_))⟩⟩⟩⟩)
 exact afJ
 exact afJ
mutual
def kg (a0 : af) (a1 : af) : Option (Bool) :=
 (if a0.aJ = a1.aJ then
 (if a0.bb = a1.bb then
 (if a0.bm = a1.bm then
 (if a0.bs = a1.bs then
 rI a0.ai a1.ai >>= fun v5 =>
 (if v5 = true then
 some true
 else
 some false)
 else
 some false)
 else
 some false)
 else
 some false)
 else
 some false)
partial_fixpoint
def rI (a0 : List ae) (a1 : List ae) : Option (Bool) :=
 (if (a0.length : Int) = (a1.length : Int) then
 ((
 fP a0 a1 0
 : Option ((Unit) ⊕ Bool)) >>= fun o9 => match o9 with
 | .inr r => some r
 | .inl _ =>
 some true
 )
 else
 some false)
partial_fixpoint
def qh (a0 : ae) (a1 : ae) : Option (Bool) :=
 qW a0.aX a1.aX >>= fun Qb =>
 (if Qb = true then
 kg a0.aL a1.aL >>= fun qi =>
 (if qi = true then
 some true
 else
 some false)
 else
 some false)
partial_fixpoint
def fP (a0 : List ae) (a1 : List ae) (bz : Int) : Option ((Unit) ⊕ Bool) :=
 (if bz < (a0.length : Int) then
 idx a0 bz >>= fun Qc =>
 idx a1 bz >>= fun uT =>
 qh Qc uT >>= fun nZ =>
 (if nZ = true then
 fP a0 a1 (ah (bz + 1))
 else
 some (.inr false))
 else
 some (.inl ()))
partial_fixpoint
end
def Mz (a0 : af) (a1 : af) (r : Bool) : Prop := ACall Tryz.prog 189 [.agg a0.lit, .agg a1.lit] [] (fun res h => res = .bool r ∧ h = [])
def MA (a0 : List ae) (a1 : List ae) (r : Bool) : Prop := ACall Tryz.prog 198 [sl 8 ae.cells a0, sl 8 ae.cells a1] [] (fun res h => res = .bool r ∧ h = [])
def D1 (a0 : ae) (a1 : ae) (r : Bool) : Prop := ACall Tryz.prog 205 [.agg a0.lit, .agg a1.lit] [] (fun res h => res = .bool r ∧ h = [])
inductive dY : (List ae) → (List ae) → Int → ((Unit) ⊕ Bool) → Prop
 | mk (MB : ae → ae → Option (Bool)) (Xr : ∀ a0 a1 r, MB a0 a1 = some r → D1 a0 a1 r) (fF : (List ae) → (List ae) → Int → Option ((Unit) ⊕ Bool)) (vl : ∀ a0 a1 bz o, fF a0 a1 bz = some o → dY a0 a1 bz o) (a0 : List ae) (a1 : List ae) (bz : Int) (o : (Unit) ⊕ Bool) (h : (
 (if bz < (a0.length : Int) then
 idx a0 bz >>= fun Qc =>
 idx a1 bz >>= fun uT =>
 MB Qc uT >>= fun nZ =>
 (if nZ = true then
 fF a0 a1 (ah (bz + 1))
 else
 some (.inr false))
 else
 some (.inl ()))
 ) = some o) : dY a0 a1 bz o
theorem uJ {motive : (List ae) → (List ae) → Int → ((Unit) ⊕ Bool) → Prop} (step : ∀ (MB : ae → ae → Option (Bool)) (Xr : ∀ a0 a1 r, MB a0 a1 = some r → D1 a0 a1 r) (fF : (List ae) → (List ae) → Int → Option ((Unit) ⊕ Bool)) (vl : ∀ a0 a1 bz o, fF a0 a1 bz = some o → dY a0 a1 bz o) (a0 : List ae) (a1 : List ae) (bz : Int) (o : (Unit) ⊕ Bool) (h : (
 (if bz < (a0.length : Int) then
 idx a0 bz >>= fun Qc =>
 idx a1 bz >>= fun uT =>
 MB Qc uT >>= fun nZ =>
 (if nZ = true then
 fF a0 a1 (ah (bz + 1))
 else
 some (.inr false))
 else
 some (.inl ()))
 ) = some o) (ih : ∀ a0 a1 bz o, fF a0 a1 bz = some o → motive a0 a1 bz o), motive a0 a1 bz o) : ∀ a0 a1 bz o, dY a0 a1 bz o → motive a0 a1 bz o :=
 fun a0 a1 bz o h => dY.rec (motive := fun a0 a1 bz o _ => motive a0 a1 bz o) step h
theorem Aj : (∀ a0 a1 r, kg a0 a1 = some r → Mz a0 a1 r) ∧ (∀ a0 a1 r, rI a0 a1 = some r → MA a0 a1 r) ∧ (∀ a0 a1 bz o, fP a0 a1 bz = some o → dY a0 a1 bz o) ∧ (∀ a0 a1 r, qh a0 a1 = some r → D1 a0 a1 r) := by
 refine kg.mutual_partial_correctness Mz MA dY D1 ?_ ?_ ?_ ?_
 intro _ Tm a0 a1 r h
 refine cP Tryz.func189 ?_
 refine .d (.d (.d ⟨rfl, ⟨rfl, _, rfl, ⟨rfl, ⟨rfl, _, rfl, (sN h (fun de h => ?_) (fun de h => ?_))⟩⟩⟩⟩))
 exact afJ
 refine .d (.d ⟨rfl, ⟨rfl, _, rfl, ⟨rfl, ⟨rfl, _, rfl, (sN h (fun jr h => ?_) (fun jr h => ?_))⟩⟩⟩⟩)
 exact afJ
 refine .d (.d ⟨rfl, ⟨rfl, _, rfl, ⟨rfl, ⟨rfl, _, rfl, (tc h (fun lJ h => ?_) (fun lJ h => ?_))⟩⟩⟩⟩)
 exact afJ
 refine .d (.d ⟨rfl, ⟨rfl, _, rfl, ⟨rfl, ⟨rfl, _, rfl, (sN h (fun oL h => ?_) (fun oL h => ?_))⟩⟩⟩⟩)
 exact afJ
 refine .d (.d ⟨rfl, ⟨rfl, _, rfl, ⟨rfl, ⟨rfl, _, rfl, (bk h fun v5 DJ h => (bO (Tm _ _ _ DJ) (j3 h (fun pT h => ?_) (fun pT h => ?_))))⟩⟩⟩⟩)
 exact afJ
 exact afJ
 intro _ aaO a0 a1 r h
 refine cP Tryz.func198 ?_
 refine .d (.d (.d (sN h (fun nh h => ?_) (fun nh h => ?_))))
 exact afJ
 obtain ⟨o9, Tn, Qd⟩ := bd h
 replace h := Tn
 refine .cut (fun σ η => .inl () = o9 ∧ σ = [] ∧ η = []) ?_ ?_
 refine .d ?_
 have aaP := aaO _ _ _ _ h
 refine le (uJ (motive := fun p28 p29 bz o26 => a0 = p28 → a1 = p29 → o9 = o26 → az _ _ [(0, sl 8 ae.cells a0), (1, sl 8 ae.cells a1), (5, .int .i64 bz)] []) ?_ a0 a1 0 o9 aaP rfl rfl rfl) (tk [] ⟨.l, .l, .i, ⟨⟩⟩ ⟨⟩)
 intro _ aaQ _ _ p28 p29 bz o26 h qE  To Tp aaR
 subst To
 subst Tp
 subst aaR
 refine az.round (.d (.d (sD h (fun oX h => ?_) (fun oX h => ?_))))
 refine .d (.d (.float [(0, true), (1, true), (2, true), (3, true), (4, true), (5, true), (6, true), (7, true), (8, false), (9, true)] agr ?_))
 refine bk h fun Qc uK h => ⟨aI uK, _, (aF uK).trans (ae.au Qc), (bk h fun uT rG h => ⟨aI rG, _, (aF rG).trans (ae.au uT), (bk h fun nZ xB h => (bO (aaQ _ _ _ xB) (j3 h (fun sJ h => ?_) (fun sJ h => ?_))))⟩)⟩
 refine .d ?_
 obtain rfl := si h
 replace h := Qd
 exact eB h
 exact lg (qE _ _ _ _ h rfl rfl rfl) (tk [] ⟨.l, .l, .i, ⟨⟩⟩ ⟨⟩)
 exact afN
 rintro _ _ ⟨rfl, rfl, rfl⟩
 replace h := Qd
 exact afJ
 intro F0 F1 B8 B9 a0 a1 bz o h
 exact .mk F1 B9 F0 B8 a0 a1 bz o h
 intro _ Tq a0 a1 r h
 refine cP Tryz.func205 ?_
 refine .d (.d (.d ⟨rfl, ⟨rfl, _, rfl, ⟨rfl, ⟨rfl, _, rfl, (bk h fun Qb Tr h => (bO (Ih Tr) (j3 h (fun xC h => ?_) (fun xC h => ?_))))⟩⟩⟩⟩))
 exact afJ
 refine .d (.d ⟨rfl, ⟨rfl, _, rfl, ⟨rfl, ⟨rfl, _, rfl, (bk h fun qi MC h => (bO (Tq _ _ _ MC) (j3 h (fun Ak h => ?_) (fun Ak h => ?_))))⟩⟩⟩⟩)
 exact afJ
 exact afJ
theorem D2 {a0 : af} {a1 : af} {r : Bool} (h : kg a0 a1 = some r) : ACall Tryz.prog 189 [.agg a0.lit, .agg a1.lit] [] (fun res h => res = .bool r ∧ h = []) := Aj.1 a0 a1 r h
def nD (a0 : aB) (a1 : aB) : Option (Bool) :=
 (if a0.ao = a1.ao then
 (if a0.bn = a1.bn then
 (if a0.bc = a1.bc then
 kg a0.aH a1.aH >>= fun v4 =>
 (if v4 = true then
 some true
 else
 some false)
 else
 some false)
 else
 some false)
 else
 some false)
theorem D3 {a0 : aB} {a1 : aB} {r : Bool} (h : nD a0 a1 = some r) : ACall Tryz.prog 163 [.agg a0.lit, .agg a1.lit] [] (fun res h => res = .bool r ∧ h = []) := by
 refine cP Tryz.func163 ?_
 unfold nD at h
 refine .d (.d (.d ⟨rfl, ⟨rfl, _, rfl, ⟨rfl, ⟨rfl, _, rfl, (tc h (fun de h => ?_) (fun de h => ?_))⟩⟩⟩⟩))
 exact afJ
 refine .d (.d ⟨rfl, ⟨rfl, _, rfl, ⟨rfl, ⟨rfl, _, rfl, (tc h (fun jr h => ?_) (fun jr h => ?_))⟩⟩⟩⟩)
 exact afJ
 refine .d (.d ⟨rfl, ⟨rfl, _, rfl, ⟨rfl, ⟨rfl, _, rfl, (tc h (fun lJ h => ?_) (fun lJ h => ?_))⟩⟩⟩⟩)
 exact afJ
 refine .d (.d ⟨rfl, ⟨rfl, _, rfl, ⟨rfl, ⟨rfl, _, rfl, (bk h fun v4 xy h => (bO (D2 xy) (j3 h (fun oM h => ?_) (fun oM h => ?_))))⟩⟩⟩⟩)
 exact afJ
 exact afJ
def mg (a0 : ax) (a1 : ax) : Option (Bool) :=
 (if a0.ao = a1.ao then
 (if a0.bn = a1.bn then
 (if a0.fh = a1.fh then
 (if a0.bc = a1.bc then
 (if a0.fZ = a1.fZ then
 some true
 else
 some false)
 else
 some false)
 else
 some false)
 else
 some false)
 else
 some false)
theorem Ch {a0 : ax} {a1 : ax} {r : Bool} (h : mg a0 a1 = some r) : ACall Tryz.prog 164 [.agg a0.lit, .agg a1.lit] [] (fun res h => res = .bool r ∧ h = []) := by
 refine cP Tryz.func164 ?_
 unfold mg at h
 refine .d (.d (.d ⟨rfl, ⟨rfl, _, rfl, ⟨rfl, ⟨rfl, _, rfl, (tc h (fun de h => ?_) (fun de h => ?_))⟩⟩⟩⟩))
 exact afJ
 refine .d (.d ⟨rfl, ⟨rfl, _, rfl, ⟨rfl, ⟨rfl, _, rfl, (tc h (fun jr h => ?_) (fun jr h => ?_))⟩⟩⟩⟩)
 exact afJ
 refine .d (.d ⟨rfl, ⟨rfl, _, rfl, ⟨rfl, ⟨rfl, _, rfl, (tc h (fun lJ h => ?_) (fun lJ h => ?_))⟩⟩⟩⟩)
 exact afJ
 refine .d (.d ⟨rfl, ⟨rfl, _, rfl, ⟨rfl, ⟨rfl, _, rfl, (tc h (fun oL h => ?_) (fun oL h => ?_))⟩⟩⟩⟩)
 exact afJ
 refine .d (.d ⟨rfl, ⟨rfl, _, rfl, ⟨rfl, ⟨rfl, _, rfl, (tc h (fun nW h => ?_) (fun nW h => ?_))⟩⟩⟩⟩)
 exact afJ
 exact afJ
def iB (a0 : List aB) (a1 : List aB) (y5 : Int) : Option ((Unit) ⊕ Bool) :=
 (if y5 < (a0.length : Int) then
 idx a0 y5 >>= fun x9 =>
 idx a1 y5 >>= fun kP =>
 nD x9 kP >>= fun qd =>
 (if qd = true then
 iB a0 a1 (ah (y5 + 1))
 else
 some (.inr false))
 else
 some (.inl ()))
partial_fixpoint
def mh (a0 : List aB) (a1 : List aB) : Option (Bool) :=
 (if (a0.length : Int) = (a1.length : Int) then
 ((
 iB a0 a1 0
 : Option ((Unit) ⊕ Bool)) >>= fun o2 => match o2 with
 | .inr r => some r
 | .inl _ =>
 some true
 )
 else
 some false)
theorem Ci {a0 : List aB} {a1 : List aB} {r : Bool} (h : mh a0 a1 = some r) : ACall Tryz.prog 119 [sl 8 aB.cells a0, sl 8 aB.cells a1] [] (fun res h => res = .bool r ∧ h = []) := by
 refine cP Tryz.func119 ?_
 unfold mh at h
 refine .d (.d (.d (sN h (fun de h => ?_) (fun de h => ?_))))
 exact afJ
 obtain ⟨o2, qD, nB⟩ := bd h
 replace h := qD
 refine .cut (fun σ η => .inl () = o2 ∧ σ = [] ∧ η = []) ?_ ?_
 refine .d ?_
 refine le (iB.partial_correctness a0 a1 (motive := fun y5 lW => o2 = lW → az _ _ [(0, sl 8 aB.cells a0), (1, sl 8 aB.cells a1), (5, .int .i64 y5)] []) ?_ 0 o2 h rfl) (tk [] ⟨.l, .l, .i, ⟨⟩⟩ ⟨⟩)
 intro F7 BZ y5 lW h kc
 subst kc
 refine az.round (.d (.d (sD h (fun nh h => ?_) (fun nh h => ?_))))
 refine .d (.d (.float [(0, true), (1, true), (2, true), (3, true), (4, true), (5, true), (6, true), (7, true), (8, false), (9, true)] agr ?_))
 refine bk h fun x9 jA h => ⟨aI jA, _, (aF jA).trans (aB.au x9), (bk h fun kP dT h => ⟨aI dT, _, (aF dT).trans (aB.au kP), (bk h fun qd nY h => (bO (D3 nY) (j3 h (fun dI h => ?_) (fun dI h => ?_))))⟩)⟩
 refine .d ?_
 exact afp
 exact afU
 exact afN
 exact afl
def gH (a0 : List ax) (a1 : List ax) (y5 : Int) : Option ((Unit) ⊕ Bool) :=
 (if y5 < (a0.length : Int) then
 idx a0 y5 >>= fun x9 =>
 idx a1 y5 >>= fun kP =>
 mg x9 kP >>= fun qd =>
 (if qd = true then
 gH a0 a1 (ah (y5 + 1))
 else
 some (.inr false))
 else
 some (.inl ()))
partial_fixpoint
def ld (a0 : List ax) (a1 : List ax) : Option (Bool) :=
 (if (a0.length : Int) = (a1.length : Int) then
 ((
 gH a0 a1 0
 : Option ((Unit) ⊕ Bool)) >>= fun o2 => match o2 with
 | .inr r => some r
 | .inl _ =>
 some true
 )
 else
 some false)
theorem Al {a0 : List ax} {a1 : List ax} {r : Bool} (h : ld a0 a1 = some r) : ACall Tryz.prog 120 [sl 5 ax.cells a0, sl 5 ax.cells a1] [] (fun res h => res = .bool r ∧ h = []) := by
 refine cP Tryz.func120 ?_
 unfold ld at h
 refine .d (.d (.d (sN h (fun de h => ?_) (fun de h => ?_))))
 exact afJ
 obtain ⟨o2, qD, nB⟩ := bd h
 replace h := qD
 refine .cut (fun σ η => .inl () = o2 ∧ σ = [] ∧ η = []) ?_ ?_
 refine .d ?_
 refine le (gH.partial_correctness a0 a1 (motive := fun y5 lW => o2 = lW → az _ _ [(0, sl 5 ax.cells a0), (1, sl 5 ax.cells a1), (5, .int .i64 y5)] []) ?_ 0 o2 h rfl) (tk [] ⟨.l, .l, .i, ⟨⟩⟩ ⟨⟩)
 intro F7 BZ y5 lW h kc
 subst kc
 refine az.round (.d (.d (sD h (fun nh h => ?_) (fun nh h => ?_))))
 refine .d (.d (.float [(0, true), (1, true), (2, true), (3, true), (4, true), (5, true), (6, true), (7, true), (8, false), (9, true)] agr ?_))
 refine bk h fun x9 jA h => ⟨aI jA, _, (aF jA).trans (ax.au x9), (bk h fun kP dT h => ⟨aI dT, _, (aF dT).trans (ax.au kP), (bk h fun qd nY h => (bO (Ch nY) (j3 h (fun dI h => ?_) (fun dI h => ?_))))⟩)⟩
 refine .d ?_
 exact afp
 exact afU
 exact afN
 exact afl
def nE (a0 : aw) (a1 : aw) : Option (Bool) :=
 (if a0.ao = a1.ao then
 (if a0.bD = a1.bD then
 mh a0.aA a1.aA >>= fun v3 =>
 (if v3 = true then
 ld a0.av a1.av >>= fun v6 =>
 (if v6 = true then
 some true
 else
 some false)
 else
 some false)
 else
 some false)
 else
 some false)
theorem D4 {a0 : aw} {a1 : aw} {r : Bool} (h : nE a0 a1 = some r) : ACall Tryz.prog 64 [.agg a0.lit, .agg a1.lit] [] (fun res h => res = .bool r ∧ h = []) := by
 refine cP Tryz.func64 ?_
 unfold nE at h
 refine .d (.d (.d ⟨rfl, ⟨rfl, _, rfl, ⟨rfl, ⟨rfl, _, rfl, (tc h (fun de h => ?_) (fun de h => ?_))⟩⟩⟩⟩))
 exact afJ
 refine .d (.d ⟨rfl, ⟨rfl, _, rfl, ⟨rfl, ⟨rfl, _, rfl, (tc h (fun jr h => ?_) (fun jr h => ?_))⟩⟩⟩⟩)
 exact afJ
 refine .d (.d ⟨rfl, ⟨rfl, _, rfl, ⟨rfl, ⟨rfl, _, rfl, (bk h fun v3 CR h => (bO (Ci CR) (j3 h (fun nW h => ?_) (fun nW h => ?_))))⟩⟩⟩⟩)
 exact afJ
 refine .d (.d ⟨rfl, ⟨rfl, _, rfl, ⟨rfl, ⟨rfl, _, rfl, (bk h fun v6 P4 h => (bO (Al P4) (j3 h (fun nh h => ?_) (fun nh h => ?_))))⟩⟩⟩⟩)
 exact afJ
 exact afJ
def iC (a0 : List aw) (a1 : List aw) (y5 : Int) : Option ((Unit) ⊕ Bool) :=
 (if y5 < (a0.length : Int) then
 idx a0 y5 >>= fun x9 =>
 idx a1 y5 >>= fun kP =>
 nE x9 kP >>= fun qd =>
 (if qd = true then
 iC a0 a1 (ah (y5 + 1))
 else
 some (.inr false))
 else
 some (.inl ()))
partial_fixpoint
def mi (a0 : List aw) (a1 : List aw) : Option (Bool) :=
 (if (a0.length : Int) = (a1.length : Int) then
 ((
 iC a0 a1 0
 : Option ((Unit) ⊕ Bool)) >>= fun o2 => match o2 with
 | .inr r => some r
 | .inl _ =>
 some true
 )
 else
 some false)
theorem Cj {a0 : List aw} {a1 : List aw} {r : Bool} (h : mi a0 a1 = some r) : ACall Tryz.prog 30 [sl 4 aw.cells a0, sl 4 aw.cells a1] [] (fun res h => res = .bool r ∧ h = []) := by
 refine cP Tryz.func30 ?_
 unfold mi at h
 refine .d (.d (.d (sN h (fun de h => ?_) (fun de h => ?_))))
 exact afJ
 obtain ⟨o2, qD, nB⟩ := bd h
 replace h := qD
 refine .cut (fun σ η => .inl () = o2 ∧ σ = [] ∧ η = []) ?_ ?_
 refine .d ?_
 refine le (iC.partial_correctness a0 a1 (motive := fun y5 lW => o2 = lW → az _ _ [(0, sl 4 aw.cells a0), (1, sl 4 aw.cells a1), (5, .int .i64 y5)] []) ?_ 0 o2 h rfl) (tk [] ⟨.l, .l, .i, ⟨⟩⟩ ⟨⟩)
 intro F7 BZ y5 lW h kc
 subst kc
 refine az.round (.d (.d (sD h (fun nh h => ?_) (fun nh h => ?_))))
 refine .d (.d (.float [(0, true), (1, true), (2, true), (3, true), (4, true), (5, true), (6, true), (7, true), (8, false), (9, true)] agr ?_))
 refine bk h fun x9 jA h => ⟨aI jA, _, (aF jA).trans (aw.au x9), (bk h fun kP dT h => ⟨aI dT, _, (aF dT).trans (aw.au kP), (bk h fun qd nY h => (bO (D4 nY) (j3 h (fun dI h => ?_) (fun dI h => ?_))))⟩)⟩
 refine .d ?_
 exact afp
 exact afU
 exact afN
 exact afl
def lf (a0 : aD) (a1 : aD) : Option (Bool) :=
 nC a0.aG a1.aG >>= fun v1 =>
 (if v1 = true then
 mi a0.ay a1.ay >>= fun v4 =>
 (if v4 = true then
 some true
 else
 some false)
 else
 some false)
theorem Ao {a0 : aD} {a1 : aD} {r : Bool} (h : lf a0 a1 = some r) : ACall Tryz.prog 10 [.agg a0.lit, .agg a1.lit] [] (fun res h => res = .bool r ∧ h = []) := by
 refine cP Tryz.func10 ?_
 unfold lf at h
 refine .d (.d (.d ⟨rfl, ⟨rfl, _, rfl, ⟨rfl, ⟨rfl, _, rfl, (bk h fun v1 jT h => (bO (D0 jT) (j3 h (fun lJ h => ?_) (fun lJ h => ?_))))⟩⟩⟩⟩))
 exact afJ
 refine .d (.d ⟨rfl, ⟨rfl, _, rfl, ⟨rfl, ⟨rfl, _, rfl, (bk h fun v4 xy h => (bO (Cj xy) (j3 h (fun oM h => ?_) (fun oM h => ?_))))⟩⟩⟩⟩)
 exact afJ
 exact afJ
def jh (a0 : List UInt8) (a1 : List UInt8) (y5 : Int) : Option ((Unit) ⊕ Bool) :=
 (if y5 < (a0.length : Int) then
 idx a0 y5 >>= fun c9 =>
 idx a1 y5 >>= fun c11 =>
 (if (c9.toNat : Int) = (c11.toNat : Int) then
 jh a0 a1 (ah (y5 + 1))
 else
 some (.inr false))
 else
 some (.inl ()))
partial_fixpoint
def kh (a0 : List UInt8) (a1 : List UInt8) : Option (Bool) :=
 (if (a0.length : Int) = (a1.length : Int) then
 ((
 jh a0 a1 0
 : Option ((Unit) ⊕ Bool)) >>= fun o2 => match o2 with
 | .inr r => some r
 | .inl _ =>
 some true
 )
 else
 some false)
theorem rJ {a0 : List UInt8} {a1 : List UInt8} {r : Bool} (h : kh a0 a1 = some r) : ACall Tryz.prog 9 [sl 1 cB a0, sl 1 cB a1] [] (fun res h => res = .bool r ∧ h = []) := by
 refine cP Tryz.func9 ?_
 unfold kh at h
 refine .d (.d (.d (sN h (fun de h => ?_) (fun de h => ?_))))
 exact afJ
 obtain ⟨o2, qD, nB⟩ := bd h
 replace h := qD
 refine .cut (fun σ η => .inl () = o2 ∧ σ = [] ∧ η = []) ?_ ?_
 refine .d ?_
 refine le (jh.partial_correctness a0 a1 (motive := fun y5 HS => o2 = HS → az _ _ [(0, sl 1 cB a0), (1, sl 1 cB a1), (5, .int .i64 y5)] []) ?_ 0 o2 h rfl) (tk [] ⟨.l, .l, .i, ⟨⟩⟩ ⟨⟩)
 intro F7 BZ y5 HS h Ml
 subst Ml
 refine az.round (.d (.d (sD h (fun nh h => ?_) (fun nh h => ?_))))
 refine .d (.d (bk h fun c9 jA h => ⟨aI jA, _, (aF jA).trans rfl, (bk h fun c11 dT h => ⟨aI dT, _, (aF dT).trans rfl, (sN h (fun jS h => ?_) (fun jS h => ?_))⟩)⟩))
 refine .d ?_
 exact afp
 exact afU
 exact afN
 exact afl
end Go.Am
