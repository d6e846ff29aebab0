/- Texts of the proof, joined and shortened. -/
import Derived.Test.YtalfppmpmnlnlaaGreatDoorPk6
set_option linter.unusedVariables false
set_option linter.unusedSimpArgs false
namespace Go.Am
open Go Go.RowKit Go.Proofs
mutual
def SF (a0 : ah) (a1 : Int) : Option (Int) :=
 (
 ui a0 a1 1 0
 : Option (Int)) >>= fun y1 =>
 some y1
partial_fixpoint
def ui (a0 : ah) (a1 : Int) (y5 : Int) (y6 : Int) : Option (Int) :=
 (if a0.aF = 4 then
 (if y6 < (a0.af.length : Int) then
 (if y5 ≤ a1 then
 idx a0.af y6 >>= fun tL =>
 SF tL.aY (ai (a1 - y5)) >>= fun tW =>
 ui a0 a1 (ai (y5 + tW)) (ai (y6 + 1))
 else
 some y5)
 else
 some y5)
 else
 some y5)
partial_fixpoint
end
def KA (a0 : ah) (a1 : Int) (r : Int) : Prop := ACall Tryz.prog 94 [.agg a0.lit, .int .i64 a1] [] (fun res h => res = .int .i64 r ∧ h = [])
inductive pX : ah → Int → Int → Int → (Int) → Prop
 | mk (Zy : ah → Int → Option (Int)) (acN : ∀ a0 a1 r, Zy a0 a1 = some r → KA a0 a1 r) (rN : ah → Int → Int → Int → Option (Int)) (LG : ∀ a0 a1 y5 y6 o, rN a0 a1 y5 y6 = some o → pX a0 a1 y5 y6 o) (a0 : ah) (a1 : Int) (y5 : Int) (y6 : Int) (o : Int) (h : (
 (if a0.aF = 4 then
 (if y6 < (a0.af.length : Int) then
 (if y5 ≤ a1 then
 idx a0.af y6 >>= fun tL =>
 Zy tL.aY (ai (a1 - y5)) >>= fun tW =>
 rN a0 a1 (ai (y5 + tW)) (ai (y6 + 1))
 else
 some y5)
 else
 some y5)
 else
 some y5)
 ) = some o) : pX a0 a1 y5 y6 o
theorem Jk {motive : ah → Int → Int → Int → (Int) → Prop} (step : ∀ (Zy : ah → Int → Option (Int)) (acN : ∀ a0 a1 r, Zy a0 a1 = some r → KA a0 a1 r) (rN : ah → Int → Int → Int → Option (Int)) (LG : ∀ a0 a1 y5 y6 o, rN a0 a1 y5 y6 = some o → pX a0 a1 y5 y6 o) (a0 : ah) (a1 : Int) (y5 : Int) (y6 : Int) (o : Int) (h : (
 (if a0.aF = 4 then
 (if y6 < (a0.af.length : Int) then
 (if y5 ≤ a1 then
 idx a0.af y6 >>= fun tL =>
 Zy tL.aY (ai (a1 - y5)) >>= fun tW =>
 rN a0 a1 (ai (y5 + tW)) (ai (y6 + 1))
 else
 some y5)
 else
 some y5)
 else
 some y5)
 ) = some o) (ih : ∀ a0 a1 y5 y6 o, rN a0 a1 y5 y6 = some o → motive a0 a1 y5 y6 o), motive a0 a1 y5 y6 o) : ∀ a0 a1 y5 y6 o, pX a0 a1 y5 y6 o → motive a0 a1 y5 y6 o :=
 fun a0 a1 y5 y6 o h => pX.rec (motive := fun a0 a1 y5 y6 o _ => motive a0 a1 y5 y6 o) step h
theorem V0 : (∀ a0 a1 r, SF a0 a1 = some r → KA a0 a1 r) ∧ (∀ a0 a1 y5 y6 o, ui a0 a1 y5 y6 = some o → pX a0 a1 y5 y6 o) := by
 refine SF.mutual_partial_correctness KA pX ?_ ?_
 intro _ Vd a0 a1 r h
 refine dx Tryz.func94 ?_
 refine .d (.d ?_)
 obtain ⟨o2, mD, ft⟩ := bd h
 replace h := mD
 refine .cut (fun σ η => ∃ y1, y1 = o2 ∧ σ = [(5, .int .i64 y1)] ∧ η = []) ?_ ?_
 refine .d ?_
 have Ve := Vd _ _ _ _ _ h
 refine le (Jk (motive := fun p19 YD y5 y6 X8 => a0 = p19 → a1 = YD → o2 = X8 → aB _ _ [(1, .int .i64 a1), (2, .aG 0 0 0 0), (5, .int .i64 y5), (6, .int .i64 y6)] [.row 0 5 1 97 (fun _ => a0.lit)]) ?_ a0 a1 1 0 o2 Ve rfl rfl rfl) (tk [0] ⟨.i, .p, .i, .i, ⟨⟩⟩ ⟨(bn rfl), ⟨⟩⟩)
 intro _ hG9 _ _ p19 YD y5 y6 X8 h zr  V1 IX Uy
 subst V1
 subst IX
 subst Uy
 refine aB.round (.d (.d ⟨rfl, ⟨rfl, _, rfl, (sE h (fun iy h => ?_) (fun iy h => ?_))⟩⟩))
 refine .t ⟨rfl, (.t ⟨rfl, _, rfl, (.t (.t (.t (sD h (fun jt h => ?_) (fun jt h => ?_)))))⟩)⟩
 refine .t (.t (.t (sD h (fun me h => ?_) (fun me h => ?_))))
 exact .d ⟨rfl, ⟨rfl, _, rfl, (bk h fun tL tT h => ⟨aK tT, _, (aD tT).trans (ae.aA tL), (bk h fun tW yB h => (bJ (hG9 _ _ _ yB) (lg (zr _ _ _ _ _ h rfl rfl rfl) (tk [0] ⟨.i, .p, .i, .i, ⟨⟩⟩ ⟨(bn rfl), ⟨⟩⟩))))⟩)⟩⟩
 exact agW
 exact .f (.f (.f (.f (ct ⟨_, si h, rfl, rfl⟩ (tk [] ⟨.i, ⟨⟩⟩ ⟨⟩)))))
 exact .f (.f (.f (.f (.f (.f (.f (.f (.f (.f (ct ⟨_, si h, rfl, rfl⟩ (tk [] ⟨.i, ⟨⟩⟩ ⟨⟩)))))))))))
 exact afY
 intro F0 F1 CS CT a0 a1 y5 y6 o h
 exact .mk F0 CS F1 CT a0 a1 y5 y6 o h
theorem acO {a0 : ah} {a1 : Int} {r : Int} (h : SF a0 a1 = some r) : ACall Tryz.prog 94 [.agg a0.lit, .int .i64 a1] [] (fun res h => res = .int .i64 r ∧ h = []) := V0.1 a0 a1 r h
mutual
def mj (a0 : ah) : Option (Int) :=
 (
 (if a0.aF = 4 then
 jk a0 1 0
 else
 some 1)
 : Option (Int)) >>= fun y1 =>
 some y1
partial_fixpoint
def jk (a0 : ah) (y6 : Int) (y7 : Int) : Option (Int) :=
 (if y7 < (a0.af.length : Int) then
 idx a0.af y7 >>= fun vC =>
 mj vC.aY >>= fun CO =>
 jk a0 (ai (y6 + CO)) (ai (y7 + 1))
 else
 some y6)
partial_fixpoint
end
def Fv (a0 : ah) (r : Int) : Prop := ACall Tryz.prog 111 [.agg a0.lit] [] (fun res h => res = .int .i64 r ∧ h = [])
inductive gN : ah → Int → Int → (Int) → Prop
 | mk (Oy : ah → Option (Int)) (Zz : ∀ a0 r, Oy a0 = some r → Fv a0 r) (iM : ah → Int → Int → Option (Int)) (yT : ∀ a0 y6 y7 o, iM a0 y6 y7 = some o → gN a0 y6 y7 o) (a0 : ah) (y6 : Int) (y7 : Int) (o : Int) (h : (
 (if y7 < (a0.af.length : Int) then
 idx a0.af y7 >>= fun vC =>
 Oy vC.aY >>= fun CO =>
 iM a0 (ai (y6 + CO)) (ai (y7 + 1))
 else
 some y6)
 ) = some o) : gN a0 y6 y7 o
theorem xF {motive : ah → Int → Int → (Int) → Prop} (step : ∀ (Oy : ah → Option (Int)) (Zz : ∀ a0 r, Oy a0 = some r → Fv a0 r) (iM : ah → Int → Int → Option (Int)) (yT : ∀ a0 y6 y7 o, iM a0 y6 y7 = some o → gN a0 y6 y7 o) (a0 : ah) (y6 : Int) (y7 : Int) (o : Int) (h : (
 (if y7 < (a0.af.length : Int) then
 idx a0.af y7 >>= fun vC =>
 Oy vC.aY >>= fun CO =>
 iM a0 (ai (y6 + CO)) (ai (y7 + 1))
 else
 some y6)
 ) = some o) (ih : ∀ a0 y6 y7 o, iM a0 y6 y7 = some o → motive a0 y6 y7 o), motive a0 y6 y7 o) : ∀ a0 y6 y7 o, gN a0 y6 y7 o → motive a0 y6 y7 o :=
 fun a0 y6 y7 o h => gN.rec (motive := fun a0 y6 y7 o _ => motive a0 y6 y7 o) step h
theorem Dg : (∀ a0 r, mj a0 = some r → Fv a0 r) ∧ (∀ a0 y6 y7 o, jk a0 y6 y7 = some o → gN a0 y6 y7 o) := by
 refine mj.mutual_partial_correctness Fv gN ?_ ?_
 intro _ acP a0 r h
 refine dx Tryz.func111 ?_
 refine .d (.d ?_)
 obtain ⟨o2, mD, ft⟩ := bd h
 replace h := mD
 refine .cut (fun σ η => ∃ y1, y1 = o2 ∧ σ = [(3, .int .i64 y1)] ∧ η = []) ?_ ?_
 refine .d ⟨rfl, ⟨rfl, _, rfl, (sE h (fun lY h => ?_) (fun lY h => ?_))⟩⟩
 refine .d ⟨rfl, ⟨rfl, _, rfl, ?_⟩⟩
 have acQ := acP _ _ _ _ h
 refine le (xF (motive := fun p18 y6 y7 sd => a0 = p18 → o2 = sd → aB _ _ [(3, .int .i64 y6), (10, sl 8 ae.cells a0.af), (11, .int .i64 (a0.af.length : Int)), (12, .int .i64 y7)] []) ?_ a0 1 0 o2 acQ rfl rfl) (tk [] ⟨.i, .l, .i, .i, ⟨⟩⟩ ⟨⟩)
 intro _ acR _ _ p18 y6 y7 sd h R7  V2 se
 subst V2
 subst se
 refine aB.round (.d (.d (sD h (fun jt h => ?_) (fun jt h => ?_))))
 exact .d (.d (bk h fun vC rH h => ⟨aK rH, _, (aD rH).trans (ae.aA vC), ⟨rfl, _, fun _ => [.bool vC.bm.df, .int .i64 vC.bm.aP, .str vC.bm.aQ, .int .i64 vC.aY.aF, .int .i64 vC.aY.aP, .str vC.aY.aQ, .int .i64 vC.aY.aO, sl 8 ae.cells vC.aY.af], rfl, ar rfl, ⟨rfl, ⟨rfl, _, rfl, (bk h fun CO IV h => (bJ (acR _ _ IV) (lg (R7 _ _ _ _ h rfl rfl) (tk [] ⟨.i, .l, .i, .i, ⟨⟩⟩ ⟨⟩))))⟩⟩⟩⟩))
 exact agW
 exact agW
 exact afY
 intro F0 F1 CS CT a0 y6 y7 o h
 exact .mk F0 CS F1 CT a0 y6 y7 o h
theorem Hp {a0 : ah} {r : Int} (h : mj a0 = some r) : ACall Tryz.prog 111 [.agg a0.lit] [] (fun res h => res = .int .i64 r ∧ h = []) := Dg.1 a0 r h
def uh (s6 : aU) (y7 : Int) : Option (aU) :=
 (if y7 = 0 then
 some s6
 else
 (if (y7.tmod 10) < 0 then
 nz ([UInt8.ofNat (IntKind.u8.wrap (ai (48 + (ai (0 - (y7.tmod 10)))))).toNat] : List UInt8) s6 >>= fun Vm =>
 uh Vm (ai (y7.tdiv 10))
 else
 nz ([UInt8.ofNat (IntKind.u8.wrap (ai (48 + (y7.tmod 10)))).toNat] : List UInt8) s6 >>= fun s14 =>
 uh s14 (ai (y7.tdiv 10))))
partial_fixpoint
def Zh (a0 : Int) : Option (aU) :=
 (if a0 = 0 then
 some [48]
 else
 (
 uh [] a0
 : Option (aU)) >>= fun s2 =>
 (if a0 < 0 then
 nz [45] s2 >>= fun V3 =>
 some V3
 else
 some s2))
theorem acS {a0 : Int} {r : aU} (h : Zh a0 = some r) : ACall Tryz.prog 143 [.int .i64 a0] [] (fun res h => res = .str r ∧ h = []) := by
 refine dx Tryz.func143 ?_
 unfold Zh at h
 refine .d (.d (.d (sE h (fun eD h => ?_) (fun eD h => ?_))))
 exact .d (eS h)
 refine .d ?_
 obtain ⟨o3, TG, KX⟩ := bd h
 replace h := TG
 refine .cut (fun σ η => ∃ s2, s2 = o3 ∧ σ = [(0, .int .i64 a0), (3, .str s2)] ∧ η = []) ?_ ?_
 refine .d ?_
 refine le (uh.partial_correctness  (motive := fun s6 y7 sd => o3 = sd → aB _ _ [(0, .int .i64 a0), (3, .str s6), (4, .int .i64 y7)] []) ?_ [] a0 o3 h rfl) (tk [] ⟨.i, .s, .i, ⟨⟩⟩ ⟨⟩)
 intro F9 R7 s6 y7 sd h se
 subst se
 refine aB.round (.d (.d (sN h (fun iy h => ?_) (fun iy h => ?_))))
 refine .d (.d ⟨by decide, (.d (.d (sD h (fun jt h => ?_) (fun jt h => ?_))))⟩)
 exact ⟨row cB ([UInt8.ofNat (IntKind.u8.wrap (ai (48 + (ai (0 - (y7.tmod 10)))))).toNat] : List UInt8), de cB ([UInt8.ofNat (IntKind.u8.wrap (ai (48 + (ai (0 - (y7.tmod 10)))))).toNat] : List UInt8) rfl (wY (AI _) ⟨.same _, trivial⟩ trivial), ⟨rfl, ([UInt8.ofNat (IntKind.u8.wrap (ai (48 + (ai (0 - (y7.tmod 10)))))).toNat] : List UInt8), rfl, nY aS rfl, (bk h fun Vm rH h => ⟨fM rH, Vm, fN rH, ⟨by decide, (lg (R7 _ _ _ h rfl) (tk [] ⟨.i, .s, .i, ⟨⟩⟩ ⟨⟩))⟩⟩)⟩⟩
 exact ⟨row cB ([UInt8.ofNat (IntKind.u8.wrap (ai (48 + (y7.tmod 10)))).toNat] : List UInt8), de cB ([UInt8.ofNat (IntKind.u8.wrap (ai (48 + (y7.tmod 10)))).toNat] : List UInt8) rfl (wY (AI _) ⟨.same _, trivial⟩ trivial), ⟨rfl, ([UInt8.ofNat (IntKind.u8.wrap (ai (48 + (y7.tmod 10)))).toNat] : List UInt8), rfl, nY aS rfl, (bk h fun s14 qe h => ⟨fM qe, s14, fN qe, ⟨by decide, (lg (R7 _ _ _ h rfl) (tk [] ⟨.i, .s, .i, ⟨⟩⟩ ⟨⟩))⟩⟩)⟩⟩
 exact ct ⟨_, si h, rfl, rfl⟩ (tk [] ⟨.i, .s, ⟨⟩⟩ ⟨⟩)
 rintro _ _ ⟨s2, rfl, rfl, rfl⟩
 replace h := KX
 refine .d (.d (sD h (fun lG h => ?_) (fun lG h => ?_)))
 exact .d (bk h fun V3 wa h => ⟨fM wa, V3, fN wa, (eS h)⟩)
 exact .d (eS h)
def wu (a0 : aU) (y8 : Int) (y9 : Int) : Option ((Int) ⊕ (Int × Bool)) :=
 (if y9 < (a0.length : Int) then
 oF a0 y9 >>= fun c13 =>
 wh (ai ((c13.toNat : Int))) 48 57 >>= fun tW =>
 (if tW = true then
 oF a0 y9 >>= fun T0 =>
 wu a0 (ai ((ai (10 * y8)) + (ai (IntKind.u8.wrap ((T0.toNat : Int) - 48))))) (ai (y9 + 1))
 else
 some (.inr (0, false)))
 else
 some (.inl y8))
partial_fixpoint
def Zj (a0 : aU) : Option (Int × Bool) :=
 wh (a0.length : Int) 1 13 >>= fun v1 =>
 (if v1 = true then
 ((
 wu a0 0 0
 : Option ((Int) ⊕ (Int × Bool))) >>= fun o5 => match o5 with
 | .inr r => some r
 | .inl y4 =>
 (if y4 > 1000000000000 then
 some (0, false)
 else
 Zh y4 >>= fun kK =>
 (if kK = a0 then
 some (y4, true)
 else
 some (0, false)))
 )
 else
 some (0, false))
theorem acT {a0 : aU} {r : Int × Bool} (h : Zj a0 = some r) : ACall Tryz.prog 194 [.str a0] [] (fun res h => res = .fu [.int .i64 r.1, .bool r.2] ∧ h = []) := by
 refine dx Tryz.func194 ?_
 unfold Zj at h
 refine .d (.d (.d (bk h fun v1 rq h => (bJ (qf rq) (hB h (fun lE h => ?_) (fun lE h => ?_))))))
 refine .d ?_
 exact ags
 refine .d ?_
 obtain ⟨o5, ym, wS⟩ := bd h
 replace h := ym
 refine .cut (fun σ η => ∃ y4, .inl y4 = o5 ∧ σ = [(0, .str a0), (4, .int .i64 y4)] ∧ η = []) ?_ ?_
 refine .d ?_
 refine le (wu.partial_correctness a0 (motive := fun y8 y9 Ij => o5 = Ij → aB _ _ [(0, .str a0), (4, .int .i64 y8), (5, .int .i64 y9)] []) ?_ 0 0 o5 h rfl) (tk [] ⟨.s, .i, .i, ⟨⟩⟩ ⟨⟩)
 intro F11 Uo y8 y9 Ij h Ik
 subst Ik
 refine aB.round (.d (.d (sD h (fun me h => ?_) (fun me h => ?_))))
 refine .d (.d (.d (bk h fun c13 tT h => ⟨jQ tT, c13, jR tT, (bk h fun tW yB h => (bJ (qf yB) (hB h (fun jO h => ?_) (fun jO h => ?_))))⟩)))
 refine .d ?_
 obtain rfl := si h
 replace h := wS
 exact ags
 exact bk h fun T0 dK h => ⟨jQ dK, T0, jR dK, (lg (Uo _ _ _ h rfl) (tk [] ⟨.s, .i, .i, ⟨⟩⟩ ⟨⟩))⟩
 exact ct ⟨_, si h, rfl, rfl⟩ (tk [] ⟨.s, .i, ⟨⟩⟩ ⟨⟩)
 rintro _ _ ⟨y4, rfl, rfl, rfl⟩
 replace h := wS
 refine .d (.d (sD h (fun kS h => ?_) (fun kS h => ?_)))
 refine .t (.t (.t (.t (.t (.d ?_)))))
 exact ags
 refine .f (bk h fun kK tO h => (bJ (acS tO) (.f (.f (.f (nq h (fun ny h => ?_) (fun ny h => ?_)))))))
 refine .d ?_
 exact ags
 refine .d ?_
 exact ags
def Xr (a0 : aU) : Option (Int × Bool) :=
 (
 (if (a0.length : Int) > 0 then
 oF a0 0 >>= fun c6 =>
 some ((c6.toNat : Int) == 45)
 else
 some false)
 : Option (Bool)) >>= fun b1 =>
 (
 (if b1 = true then
 tm a0 1 >>= fun s13 =>
 some s13
 else
 some a0)
 : Option (aU)) >>= fun s8 =>
 Zj s8 >>= fun (tW, du) =>
 (if du = true then
 (if tW > 1000000000 then
 some (0, false)
 else
 (if b1 = true then
 (if tW = 0 then
 some (0, false)
 else
 some (ai (0 - tW), true))
 else
 some (tW, true)))
 else
 some (0, false))
theorem ZA {a0 : aU} {r : Int × Bool} (h : Xr a0 = some r) : ACall Tryz.prog 179 [.str a0] [] (fun res h => res = .fu [.int .i64 r.1, .bool r.2] ∧ h = []) := by
 refine dx Tryz.func179 ?_
 unfold Xr at h
 refine .d ?_
 obtain ⟨o2, mD, ft⟩ := bd h
 replace h := mD
 refine .cut (fun σ η => ∃ b1, b1 = o2 ∧ σ = [(0, .str a0), (4, .bool b1)] ∧ η = []) ?_ ?_
 refine sD h (fun lY h => ?_) (fun lY h => ?_)
 exact .t (bk h fun c6 ZB h => ⟨jQ ZB, c6, jR ZB, (.t (.t (ct ⟨_, si h, rfl, rfl⟩ (tk [] ⟨.s, .b, ⟨⟩⟩ ⟨⟩))))⟩)
 exact .f (.f (.f (ct ⟨_, si h, rfl, rfl⟩ (tk [] ⟨.s, .b, ⟨⟩⟩ ⟨⟩))))
 rintro _ _ ⟨b1, rfl, rfl, rfl⟩
 replace h := ft
 obtain ⟨o9, TA, Qp⟩ := bd h
 replace h := TA
 refine .cut (fun σ η => ∃ s8, s8 = o9 ∧ σ = [(0, .str s8), (4, .bool b1)] ∧ η = []) ?_ ?_
 refine .d (sV h (fun me h => ?_) (fun me h => ?_))
 exact bk h fun s13 tT h => ⟨GY tT, s13, GZ tT, (ct ⟨_, si h, rfl, rfl⟩ (tk [] ⟨.s, .b, ⟨⟩⟩ ⟨⟩))⟩
 exact ct ⟨_, si h, rfl, rfl⟩ (tk [] ⟨.s, .b, ⟨⟩⟩ ⟨⟩)
 rintro _ _ ⟨s8, rfl, rfl, rfl⟩
 replace h := Qp
 refine .d ?_
 obtain ⟨⟨tW, du⟩, tP, h⟩ := bd h
 refine bJ (acT tP) (.d (.d (hB h (fun lG h => ?_) (fun lG h => ?_))))
 refine .t (.t (.t (.t (.t (.t (.t (.d ?_)))))))
 exact ags
 refine .f (.f (sD h (fun lH h => ?_) (fun lH h => ?_)))
 refine .t (.t (.t (.t (.d ?_))))
 exact ags
 refine .f (sV h (fun pH h => ?_) (fun pH h => ?_))
 refine .t (.f (.t (.f (sE h (fun pE h => ?_) (fun pE h => ?_)))))
 refine .d ?_
 exact ags
 refine .d (.d (.kt pH (.d ?_)))
 exact ags
 refine .f (.f (.f (.f (.f (.d (.d (.kf pH (.d ?_))))))))
 exact ags
def m23 (a0 : bH) : Option (Bool) :=
 (if a0.df = true then
 Xr a0.aQ >>= fun (v5, v6) =>
 (if a0.aP = 0 then
 (if (a0.aQ.length : Int) ≤ 400 then
 some (!v6)
 else
 some false)
 else
 some false)
 else
 wh a0.aP (-1000000000) 1000000000 >>= fun v2 =>
 (if v2 = true then
 some (a0.aQ == ([] : aU))
 else
 some false))
theorem acU {a0 : bH} {r : Bool} (h : m23 a0 = some r) : ACall Tryz.prog 140 [.agg a0.lit] [] (fun res h => res = .bool r ∧ h = []) := by
 refine dx Tryz.func140 ?_
 unfold m23 at h
 refine .d (.d (.d ⟨rfl, ⟨rfl, _, rfl, (hB h (fun eD h => ?_) (fun eD h => ?_))⟩⟩))
 refine .d ⟨rfl, ⟨rfl, _, rfl, (bk h fun v2 qs h => (bJ (qf qs) (sV h (fun oN h => ?_) (fun oN h => ?_))))⟩⟩
 exact ⟨rfl, (.t ⟨rfl, _, rfl, (.t (.t (eB h)))⟩)⟩
 exact aho
 refine .d ⟨rfl, ⟨rfl, _, rfl, ?_⟩⟩
 obtain ⟨⟨v5, v6⟩, Qq, h⟩ := bd h
 refine bJ (ZA Qq) (.d ⟨rfl, ⟨rfl, _, rfl, (sE h (fun mI h => ?_) (fun mI h => ?_))⟩⟩)
 refine ⟨rfl, (.t ⟨rfl, _, rfl, (.t (.t (.t (sD h (fun qu h => ?_) (fun qu h => ?_)))))⟩)⟩
 exact .t (.t (eB h))
 exact ahl
 exact ahs
mutual
def SG (a0 : ah) : Option (Bool) :=
 ((
 (if a0.aF = 3 then
 (if a0.aF = 4 then
 some (.inl ())
 else
 (if a0.aO = 0 then
 (if (a0.af.length : Int) > 0 then
 some (.inr false)
 else
 some (.inl ()))
 else
 some (.inr false)))
 else
 (if a0.aQ = ([] : aU) then
 (if a0.aF = 4 then
 some (.inl ())
 else
 (if a0.aO = 0 then
 (if (a0.af.length : Int) > 0 then
 some (.inr false)
 else
 some (.inl ()))
 else
 some (.inr false)))
 else
 some (.inr false)))
 : Option ((Unit) ⊕ Bool)) >>= fun o1 => match o1 with
 | .inr r => some r
 | .inl _ =>
 ((
 (if a0.aF = 0 then
 some (.inr (a0.aP == 0))
 else
 (if a0.aF = 1 then
 wh a0.aP 0 1 >>= fun rX =>
 some (.inr rX)
 else
 (if a0.aF = 2 then
 wh a0.aP (-1000000000) 1000000000 >>= fun v20 =>
 some (.inr v20)
 else
 (if a0.aF = 3 then
 (if a0.aP = 0 then
 some (.inr (decide ((a0.aQ.length : Int) ≤ 400)))
 else
 some (.inr false))
 else
 (
 (if a0.aF = 6 then
 some (a0.aF == 6)
 else
 (if a0.aF = 7 then
 some (a0.aF == 7)
 else
 some (a0.aF == 8)))
 : Option (Bool)) >>= fun M3 =>
 (if M3 = true then
 wh a0.aP 0 255 >>= fun v31 =>
 some (.inr v31)
 else
 (if a0.aF = 4 then
 (if a0.aP = 0 then
 wh a0.aO 0 1000000001 >>= fun oz =>
 (if oz = true then
 ((
 uk a0 0
 : Option ((Unit) ⊕ ((Unit) ⊕ Bool))) >>= fun Sb => match Sb with
 | .inr r => some r
 | .inl _ =>
 some (.inr true)
 )
 else
 some (.inr false))
 else
 some (.inr false))
 else
 some (.inl ())))))))
 : Option ((Unit) ⊕ Bool)) >>= fun HY => match HY with
 | .inr r => some r
 | .inl _ =>
 some false
 )
 )
partial_fixpoint
def uk (a0 : ah) (iC : Int) : Option ((Unit) ⊕ ((Unit) ⊕ Bool)) :=
 (if iC < (a0.af.length : Int) then
 idx a0.af iC >>= fun lF =>
 m23 lF.bm >>= fun HZ =>
 (if HZ = true then
 (if lF.bm.df = true then
 P5 a0 lF.bm >>= fun yg =>
 (if yg = iC then
 idx a0.af iC >>= fun V4 =>
 SG V4.aY >>= fun su =>
 (if su = true then
 uk a0 (ai (iC + 1))
 else
 some (.inr (.inr false)))
 else
 some (.inr (.inr false)))
 else
 (if lF.bm.aP ≥ a0.aO then
 some (.inr (.inr false))
 else
 P5 a0 lF.bm >>= fun v53 =>
 (if v53 = iC then
 idx a0.af iC >>= fun V5 =>
 SG V5.aY >>= fun Qa =>
 (if Qa = true then
 uk a0 (ai (iC + 1))
 else
 some (.inr (.inr false)))
 else
 some (.inr (.inr false)))))
 else
 some (.inr (.inr false)))
 else
 some (.inl ()))
partial_fixpoint
end
def KB (a0 : ah) (r : Bool) : Prop := ACall Tryz.prog 95 [.agg a0.lit] [] (fun res h => res = .bool r ∧ h = [])
inductive pY : ah → Int → ((Unit) ⊕ ((Unit) ⊕ Bool)) → Prop
 | mk (V6 : ah → Option (Bool)) (acV : ∀ a0 r, V6 a0 = some r → KB a0 r) (oh : ah → Int → Option ((Unit) ⊕ ((Unit) ⊕ Bool))) (LH : ∀ a0 iC o, oh a0 iC = some o → pY a0 iC o) (a0 : ah) (iC : Int) (o : (Unit) ⊕ ((Unit) ⊕ Bool)) (h : (
 (if iC < (a0.af.length : Int) then
 idx a0.af iC >>= fun lF =>
 m23 lF.bm >>= fun HZ =>
 (if HZ = true then
 (if lF.bm.df = true then
 P5 a0 lF.bm >>= fun yg =>
 (if yg = iC then
 idx a0.af iC >>= fun V4 =>
 V6 V4.aY >>= fun su =>
 (if su = true then
 oh a0 (ai (iC + 1))
 else
 some (.inr (.inr false)))
 else
 some (.inr (.inr false)))
 else
 (if lF.bm.aP ≥ a0.aO then
 some (.inr (.inr false))
 else
 P5 a0 lF.bm >>= fun v53 =>
 (if v53 = iC then
 idx a0.af iC >>= fun V5 =>
 V6 V5.aY >>= fun Qa =>
 (if Qa = true then
 oh a0 (ai (iC + 1))
 else
 some (.inr (.inr false)))
 else
 some (.inr (.inr false)))))
 else
 some (.inr (.inr false)))
 else
 some (.inl ()))
 ) = some o) : pY a0 iC o
theorem Jl {motive : ah → Int → ((Unit) ⊕ ((Unit) ⊕ Bool)) → Prop} (step : ∀ (V6 : ah → Option (Bool)) (acV : ∀ a0 r, V6 a0 = some r → KB a0 r) (oh : ah → Int → Option ((Unit) ⊕ ((Unit) ⊕ Bool))) (LH : ∀ a0 iC o, oh a0 iC = some o → pY a0 iC o) (a0 : ah) (iC : Int) (o : (Unit) ⊕ ((Unit) ⊕ Bool)) (h : (
 (if iC < (a0.af.length : Int) then
 idx a0.af iC >>= fun lF =>
 m23 lF.bm >>= fun HZ =>
 (if HZ = true then
 (if lF.bm.df = true then
 P5 a0 lF.bm >>= fun yg =>
 (if yg = iC then
 idx a0.af iC >>= fun V4 =>
 V6 V4.aY >>= fun su =>
 (if su = true then
 oh a0 (ai (iC + 1))
 else
 some (.inr (.inr false)))
 else
 some (.inr (.inr false)))
 else
 (if lF.bm.aP ≥ a0.aO then
 some (.inr (.inr false))
 else
 P5 a0 lF.bm >>= fun v53 =>
 (if v53 = iC then
 idx a0.af iC >>= fun V5 =>
 V6 V5.aY >>= fun Qa =>
 (if Qa = true then
 oh a0 (ai (iC + 1))
 else
 some (.inr (.inr false)))
 else
 some (.inr (.inr false)))))
 else
 some (.inr (.inr false)))
 else
 some (.inl ()))
 ) = some o) (ih : ∀ a0 iC o, oh a0 iC = some o → motive a0 iC o), motive a0 iC o) : ∀ a0 iC o, pY a0 iC o → motive a0 iC o :=
 fun a0 iC o h => pY.rec (motive := fun a0 iC o _ => motive a0 iC o) step h
theorem V7 : (∀ a0 r, SG a0 = some r → KB a0 r) ∧ (∀ a0 iC o, uk a0 iC = some o → pY a0 iC o) := by
 refine SG.mutual_partial_correctness KB pY ?_ ?_
 intro _ acW a0 r h
 refine dx Tryz.func95 ?_
 refine .d ?_
 obtain ⟨o1, yz, mE⟩ := bd h
 replace h := yz
 refine .cut (fun σ η => .inl () = o1 ∧ σ = [(1, .aG 0 0 0 0)] ∧ η = [.row 0 5 1 97 (fun _ => a0.lit)]) ?_ ?_
 refine .d ⟨rfl, ⟨rfl, _, rfl, (sN h (fun oN h => ?_) (fun oN h => ?_))⟩⟩
 refine ⟨rfl, (.t ⟨rfl, _, rfl, (.t (.t (nq h (fun lY h => ?_) (fun lY h => ?_))))⟩)⟩
 refine .t (.t (.t (.t (.t (.t (.d ?_))))))
 exact afX
 refine ⟨rfl, (.f ⟨rfl, _, rfl, (.f (.f (sN h (fun mJ h => ?_) (fun mJ h => ?_))))⟩)⟩
 refine ⟨rfl, (.t ⟨rfl, _, rfl, (.t (.t (sN h (fun nr h => ?_) (fun nr h => ?_))))⟩)⟩
 refine .t (.t (.t (.t (.t (.f (.t (.f (.t (.d ?_)))))))))
 exact afX
 refine ⟨rfl, (.f ⟨rfl, _, rfl, (.f (.f (.t (.f (.f (.t (.f (sD h (fun mI h => ?_) (fun mI h => ?_)))))))))⟩)⟩
 refine .d ?_
 exact afX
 exact agS
 exact ahc
 refine .f (.f (.f (.f ⟨rfl, (.f ⟨rfl, _, rfl, (.f (.f (sN h (fun qu h => ?_) (fun qu h => ?_))))⟩)⟩)))
 refine ⟨rfl, (.t ⟨rfl, _, rfl, (.t (.t (sN h (fun iy h => ?_) (fun iy h => ?_))))⟩)⟩
 refine .t (.t (.t (.t (.t (.f (.t (.f (.t (.d ?_)))))))))
 exact afX
 refine ⟨rfl, (.f ⟨rfl, _, rfl, (.f (.f (.t (.f (.f (.t (.f (sD h (fun jt h => ?_) (fun jt h => ?_)))))))))⟩)⟩
 refine .d ?_
 exact afX
 exact agS
 exact ahc
 rintro _ _ ⟨rfl, rfl, rfl⟩
 replace h := mE
 obtain ⟨HY, EV, jS⟩ := bd h
 replace h := EV
 refine .cut (fun σ η => .inl () = HY ∧ σ = [] ∧ η = []) ?_ ?_
 refine .d ⟨rfl, ⟨rfl, _, rfl, (.d (sE h (fun eE h => ?_) (fun eE h => ?_)))⟩⟩
 refine .d ⟨rfl, ⟨rfl, _, rfl, ?_⟩⟩
 exact afV
 refine .d (sE h (fun kz h => ?_) (fun kz h => ?_))
 refine .d ⟨rfl, ⟨rfl, _, rfl, (bk h fun rX yv h => (bJ (qf yv) ?_))⟩⟩
 exact afV
 refine .d (sE h (fun lH h => ?_) (fun lH h => ?_))
 refine .d ⟨rfl, ⟨rfl, _, rfl, (bk h fun v20 Ez h => (bJ (qf Ez) ?_))⟩⟩
 exact afV
 refine .d (sE h (fun kS h => ?_) (fun kS h => ?_))
 refine .d ⟨rfl, ⟨rfl, _, rfl, (sE h (fun oT h => ?_) (fun oT h => ?_))⟩⟩
 refine ⟨rfl, (.t ⟨rfl, _, rfl, (.t (.t (.t ?_)))⟩)⟩
 exact afV
 refine .f (.f (.f (.f ?_)))
 exact afV
 obtain ⟨Md, M5, ER⟩ := bd h
 replace h := M5
 refine .cut (fun σ η => ∃ M3, M3 = Md ∧ σ = [(1, .aG 0 0 0 0), (30, .int .i64 a0.aF), (57, .bool M3)] ∧ η = [.row 0 5 1 97 (fun _ => a0.lit)]) ?_ ?_
 refine .d (sE h (fun pD h => ?_) (fun pD h => ?_))
 exact agO
 refine .d (sE h (fun qV h => ?_) (fun qV h => ?_))
 exact agO
 exact agO
 rintro _ _ ⟨M3, rfl, rfl, rfl⟩
 replace h := ER
 refine sV h (fun qU h => ?_) (fun qU h => ?_)
 refine .d ⟨rfl, ⟨rfl, _, rfl, (bk h fun v31 Ie h => (bJ (qf Ie) ?_))⟩⟩
 exact afV
 refine .d (sE h (fun yw h => ?_) (fun yw h => ?_))
 refine .d (.d ⟨rfl, ⟨rfl, _, rfl, (sN h (fun A3 h => ?_) (fun A3 h => ?_))⟩⟩)
 refine .t (.t (.t (.t (.t (.d ?_)))))
 exact afV
 refine ⟨rfl, (.f ⟨rfl, _, rfl, (.f (bk h fun oz A4 h => (bJ (qf A4) (.f (.f (hB h (fun wc h => ?_) (fun wc h => ?_)))))))⟩)⟩
 refine .d ?_
 exact afV
 obtain ⟨Sb, acX, Jm⟩ := bd h
 replace h := acX
 refine .cut (fun σ η => .inl () = Sb ∧ σ = [] ∧ η = []) ?_ ?_
 refine .d ?_
 have acY := acW _ _ _ h
 refine le (Jl (motive := fun ZC iC o69 => a0 = ZC → Sb = o69 → aB _ _ [(1, .aG 0 0 0 0), (3, .int .i64 iC)] [.row 0 5 1 97 (fun _ => a0.lit)]) ?_ a0 0 Sb acY rfl rfl) (tk [0] ⟨.p, .i, ⟨⟩⟩ ⟨(bn rfl), ⟨⟩⟩)
 intro _ Oz _ _ ZC iC o69 h OA  Jn acZ
 subst Jn
 subst acZ
 refine aB.round (.d (.d ⟨rfl, ⟨rfl, _, rfl, (sD h (fun EO h => ?_) (fun EO h => ?_))⟩⟩))
 refine .d (.d ⟨rfl, ⟨rfl, _, rfl, (bk h fun lF OB h => ⟨aK OB, _, (aD OB).trans (ae.aA lF), ⟨rfl, _, fun _ => [.bool lF.bm.df, .int .i64 lF.bm.aP, .str lF.bm.aQ], rfl, ar rfl, (.d ⟨rfl, _, rfl, (bk h fun HZ Nc h => (bJ (acU Nc) (hB h (fun Iv h => ?_) (fun Iv h => ?_))))⟩)⟩⟩)⟩⟩)
 refine .t (.t (.t (.t (.t (.t (.t (.t (.t (.t (.t (.t (.t (.t (.t ?_))))))))))))))
 refine .t (.t (.t (.t (.t (.t (.d ?_))))))
 obtain rfl := si h
 exact agN
 refine ⟨rfl, (.f ⟨rfl, _, rfl, (.f (.f (hB h (fun Iw h => ?_) (fun Iw h => ?_))))⟩)⟩
 refine ⟨rfl, (.t ⟨rfl, _, rfl, (.t ⟨rfl, (.t ⟨rfl, _, rfl, (.t (.f (.t (.f (sD h (fun Bo h => ?_) (fun Bo h => ?_))))))⟩)⟩)⟩)⟩
 refine .t (.t (.t (.t (.t (.t (.t (.t (.t (.t (.t (.t (.t (.t (.t ?_))))))))))))))
 refine .d ?_
 obtain rfl := si h
 exact agN
 refine ⟨rfl, _, rfl, (.f ⟨rfl, _, rfl, (.f (bk h fun v53 Ff h => (bJ (XV Ff) (.f (.f (.f (sN h (fun OC h => ?_) (fun OC h => ?_))))))))⟩)⟩
 refine .t (.t (.t (.t (.t (.t (.t (.t (.t (.d ?_)))))))))
 obtain rfl := si h
 exact agN
 refine ⟨rfl, (.f ⟨rfl, _, rfl, (.f (.f (bk h fun V5 ZD h => ⟨aK ZD, _, (aD ZD).trans (ae.aA V5), (.f (.f (.f (bk h fun Qa U5 h => (bJ (Oz _ _ U5) (.f (.f (hB h (fun Ix h => ?_) (fun Ix h => ?_)))))))))⟩)))⟩)⟩
 refine .d ?_
 obtain rfl := si h
 exact agN
 exact lg (OA _ _ _ h rfl rfl) (tk [0] ⟨.p, .i, ⟨⟩⟩ ⟨(bn rfl), ⟨⟩⟩)
 refine .f (.f (.f (.f (.f (.f (.f (.f ⟨rfl, _, rfl, (.f ⟨rfl, _, rfl, (.f (bk h fun yg EZ h => (bJ (XV EZ) (.f ?_))))⟩)⟩)))))))
 refine .f (.f (sN h (fun Ud h => ?_) (fun Ud h => ?_)))
 refine .t (.t (.t (.t (.t (.t (.t (.t (.t (.d ?_)))))))))
 obtain rfl := si h
 exact agN
 refine ⟨rfl, (.f ⟨rfl, _, rfl, (.f (.f (bk h fun V4 ZE h => ⟨aK ZE, _, (aD ZE).trans (ae.aA V4), (.f (.f (.f (bk h fun su Ue h => (bJ (Oz _ _ Ue) (.f (.f (hB h (fun Uf h => ?_) (fun Uf h => ?_)))))))))⟩)))⟩)⟩
 refine .d ?_
 obtain rfl := si h
 exact agN
 exact lg (OA _ _ _ h rfl rfl) (tk [0] ⟨.p, .i, ⟨⟩⟩ ⟨(bn rfl), ⟨⟩⟩)
 exact agQ
 rintro _ _ ⟨rfl, rfl, rfl⟩
 replace h := Jm
 refine .d ?_
 exact afV
 exact agQ
 rintro _ _ ⟨rfl, rfl, rfl⟩
 replace h := jS
 exact agP
 intro F0 F1 CS CT a0 iC o h
 exact .mk F0 CS F1 CT a0 iC o h
theorem ac0 {a0 : ah} {r : Bool} (h : SG a0 = some r) : ACall Tryz.prog 95 [.agg a0.lit] [] (fun res h => res = .bool r ∧ h = []) := V7.1 a0 r h
def m22 (a0 : ah) : Option (Bool) :=
 SF a0 200 >>= fun v1 =>
 (if v1 ≤ 200 then
 SG a0 >>= fun v4 =>
 some v4
 else
 some false)
theorem ZF {a0 : ah} {r : Bool} (h : m22 a0 = some r) : ACall Tryz.prog 46 [.agg a0.lit] [] (fun res h => res = .bool r ∧ h = []) := by
 refine dx Tryz.func46 ?_
 unfold m22 at h
 refine .d (.d ⟨rfl, _, rfl, (bk h fun v1 rq h => (bJ (acO rq) (sD h (fun lE h => ?_) (fun lE h => ?_))))⟩)
 exact ⟨rfl, _, rfl, (.t (bk h fun v4 CU h => (bJ (ac0 CU) (.t (eB h)))))⟩
 exact ahl
def H3 (a0 : aU) : Option (Int × Bool) :=
 Nw a0 (-1000000000) 1000000000 >>= fun (v1, v2) =>
 some (v1, v2)
theorem Vl {a0 : aU} {r : Int × Bool} (h : H3 a0 = some r) : ACall Tryz.prog 170 [.str a0] [] (fun res h => res = .fu [.int .i64 r.1, .bool r.2] ∧ h = []) := by
 refine dx Tryz.func170 ?_
 unfold H3 at h
 refine .d (.d ?_)
 obtain ⟨⟨v1, v2⟩, qs, h⟩ := bd h
 refine bJ (YL qs) ?_
 exact ags
def VK (a0 : bH) : Option (Bool) :=
 (if a0.df = true then
 H3 a0.aQ >>= fun (v5, v6) =>
 (if a0.aP = 0 then
 (if (a0.aQ.length : Int) ≤ 400 then
 some (!v6)
 else
 some false)
 else
 some false)
 else
 (if a0.aQ = ([] : aU) then
 zu a0.aP (-1000000000) 1000000000 >>= fun v3 =>
 some v3
 else
 some false))
theorem ac1 {a0 : bH} {r : Bool} (h : VK a0 = some r) : ACall Tryz.prog 157 [.agg a0.lit] [] (fun res h => res = .bool r ∧ h = []) := by
 refine dx Tryz.func157 ?_
 unfold VK at h
 refine .d (.d (.d ⟨rfl, ⟨rfl, _, rfl, (hB h (fun eD h => ?_) (fun eD h => ?_))⟩⟩))
 refine .d ⟨rfl, ⟨rfl, _, rfl, (sE h (fun jo h => ?_) (fun jo h => ?_))⟩⟩
 exact ⟨rfl, (.t ⟨rfl, _, rfl, (.t (bk h fun v3 A6 h => (bJ (vw A6) (.t (eB h)))))⟩)⟩
 exact aho
 refine .d ⟨rfl, ⟨rfl, _, rfl, ?_⟩⟩
 obtain ⟨⟨v5, v6⟩, Qq, h⟩ := bd h
 refine bJ (Vl Qq) (.d ⟨rfl, ⟨rfl, _, rfl, (sE h (fun mI h => ?_) (fun mI h => ?_))⟩⟩)
 refine ⟨rfl, (.t ⟨rfl, _, rfl, (.t (.t (.t (sD h (fun qu h => ?_) (fun qu h => ?_)))))⟩)⟩
 exact .t (.t (eB h))
 exact ahl
 exact ahs
set_option maxRecDepth 100000
mutual
def gd (a0 : ah) : Option (Bool) :=
 ((
 (if a0.aF = 3 then
 (if a0.aF = 4 then
 some (.inl ())
 else
 (if a0.aO = 0 then
 (if (a0.af.length : Int) > 0 then
 some (.inr false)
 else
 some (.inl ()))
 else
 some (.inr false)))
 else
 (if a0.aQ = ([] : aU) then
 (if a0.aF = 4 then
 some (.inl ())
 else
 (if a0.aO = 0 then
 (if (a0.af.length : Int) > 0 then
 some (.inr false)
 else
 some (.inl ()))
 else
 some (.inr false)))
 else
 some (.inr false)))
 : Option ((Unit) ⊕ Bool)) >>= fun o1 => match o1 with
 | .inr r => some r
 | .inl _ =>
 ((
 (if a0.aF = 0 then
 some (.inr (a0.aP == 0))
 else
 (if a0.aF = 1 then
 (if a0.aP = 0 then
 some (.inr true)
 else
 some (.inr (a0.aP == 1)))
 else
 (if a0.aF = 2 then
 zu a0.aP (-1000000000) 1000000000 >>= fun zt =>
 some (.inr zt)
 else
 (if a0.aF = 3 then
 (if a0.aP = 0 then
 some (.inr (decide ((a0.aQ.length : Int) ≤ 400)))
 else
 some (.inr false))
 else
 (
 (if a0.aF = 6 then
 some (a0.aF == 6)
 else
 (if a0.aF = 7 then
 some (a0.aF == 7)
 else
 some (a0.aF == 8)))
 : Option (Bool)) >>= fun J5 =>
 (if J5 = true then
 zu a0.aP 0 255 >>= fun v30 =>
 some (.inr v30)
 else
 (if a0.aF = 4 then
 (if a0.aP = 0 then
 zu a0.aO 0 1000000001 >>= fun yJ =>
 (if yJ = true then
 ((
 dX a0 ([] : List (bH × Bool)) 0
 : Option ((Unit) ⊕ ((Unit) ⊕ Bool))) >>= fun QU => match QU with
 | .inr r => some r
 | .inl _ =>
 some (.inr true)
 )
 else
 some (.inr false))
 else
 some (.inr false))
 else
 some (.inl ())))))))
 : Option ((Unit) ⊕ Bool)) >>= fun HY => match HY with
 | .inr r => some r
 | .inl _ =>
 some false
 )
 )
partial_fixpoint
def dX (a0 : ah) (oA : List (bH × Bool)) (iC : Int) : Option ((Unit) ⊕ ((Unit) ⊕ Bool)) :=
 (if iC < (a0.af.length : Int) then
 idx a0.af iC >>= fun lF =>
 VK lF.bm >>= fun HZ =>
 (if HZ = true then
 (if (rY oA lF.bm false) = true then
 some (.inr (.inr false))
 else
 (if lF.bm.df = true then
 gd lF.aY >>= fun rF =>
 (if rF = true then
 dX a0 (fX oA lF.bm true) (ai (iC + 1))
 else
 some (.inr (.inr false)))
 else
 (if lF.bm.aP ≥ a0.aO then
 some (.inr (.inr false))
 else
 gd lF.aY >>= fun vH =>
 (if vH = true then
 dX a0 (fX oA lF.bm true) (ai (iC + 1))
 else
 some (.inr (.inr false))))))
 else
 some (.inr (.inr false)))
 else
 some (.inl ()))
partial_fixpoint
end
def Fw (a0 : ah) (r : Bool) : Prop := ACall Tryz.prog 112 [.agg a0.lit] [] (fun res h => res = .bool r ∧ h = [])
inductive dW : ah → (List (bH × Bool)) → Int → ((Unit) ⊕ ((Unit) ⊕ Bool)) → Prop
 | mk (Jo : ah → Option (Bool)) (ZG : ∀ a0 r, Jo a0 = some r → Fw a0 r) (dm : ah → (List (bH × Bool)) → Int → Option ((Unit) ⊕ ((Unit) ⊕ Bool))) (uu : ∀ a0 oA iC o, dm a0 oA iC = some o → dW a0 oA iC o) (a0 : ah) (oA : List (bH × Bool)) (iC : Int) (o : (Unit) ⊕ ((Unit) ⊕ Bool)) (h : (
 (if iC < (a0.af.length : Int) then
 idx a0.af iC >>= fun lF =>
 VK lF.bm >>= fun HZ =>
 (if HZ = true then
 (if (rY oA lF.bm false) = true then
 some (.inr (.inr false))
 else
 (if lF.bm.df = true then
 Jo lF.aY >>= fun rF =>
 (if rF = true then
 dm a0 (fX oA lF.bm true) (ai (iC + 1))
 else
 some (.inr (.inr false)))
 else
 (if lF.bm.aP ≥ a0.aO then
 some (.inr (.inr false))
 else
 Jo lF.aY >>= fun vH =>
 (if vH = true then
 dm a0 (fX oA lF.bm true) (ai (iC + 1))
 else
 some (.inr (.inr false))))))
 else
 some (.inr (.inr false)))
 else
 some (.inl ()))
 ) = some o) : dW a0 oA iC o
theorem tI {motive : ah → (List (bH × Bool)) → Int → ((Unit) ⊕ ((Unit) ⊕ Bool)) → Prop} (step : ∀ (Jo : ah → Option (Bool)) (ZG : ∀ a0 r, Jo a0 = some r → Fw a0 r) (dm : ah → (List (bH × Bool)) → Int → Option ((Unit) ⊕ ((Unit) ⊕ Bool))) (uu : ∀ a0 oA iC o, dm a0 oA iC = some o → dW a0 oA iC o) (a0 : ah) (oA : List (bH × Bool)) (iC : Int) (o : (Unit) ⊕ ((Unit) ⊕ Bool)) (h : (
 (if iC < (a0.af.length : Int) then
 idx a0.af iC >>= fun lF =>
 VK lF.bm >>= fun HZ =>
 (if HZ = true then
 (if (rY oA lF.bm false) = true then
 some (.inr (.inr false))
 else
 (if lF.bm.df = true then
 Jo lF.aY >>= fun rF =>
 (if rF = true then
 dm a0 (fX oA lF.bm true) (ai (iC + 1))
 else
 some (.inr (.inr false)))
 else
 (if lF.bm.aP ≥ a0.aO then
 some (.inr (.inr false))
 else
 Jo lF.aY >>= fun vH =>
 (if vH = true then
 dm a0 (fX oA lF.bm true) (ai (iC + 1))
 else
 some (.inr (.inr false))))))
 else
 some (.inr (.inr false)))
 else
 some (.inl ()))
 ) = some o) (ih : ∀ a0 oA iC o, dm a0 oA iC = some o → motive a0 oA iC o), motive a0 oA iC o) : ∀ a0 oA iC o, dW a0 oA iC o → motive a0 oA iC o :=
 fun a0 oA iC o h => dW.rec (motive := fun a0 oA iC o _ => motive a0 oA iC o) step h
theorem xG : (∀ a0 r, gd a0 = some r → Fw a0 r) ∧ (∀ a0 oA iC o, dX a0 oA iC = some o → dW a0 oA iC o) := by
 refine gd.mutual_partial_correctness Fw dW ?_ ?_
 intro _ ac2 a0 r h
 refine dx Tryz.func112 ?_
 refine .d ?_
 obtain ⟨o1, yz, mE⟩ := bd h
 replace h := yz
 refine .cut (fun σ η => .inl () = o1 ∧ σ = [(1, .aG 0 0 0 0)] ∧ η = [.row 0 5 1 97 (fun _ => a0.lit)]) ?_ ?_
 refine .d ⟨rfl, ⟨rfl, _, rfl, (sN h (fun oN h => ?_) (fun oN h => ?_))⟩⟩
 refine ⟨rfl, (.t ⟨rfl, _, rfl, (.t (.t (nq h (fun lY h => ?_) (fun lY h => ?_))))⟩)⟩
 refine .t (.t (.t (.t (.t (.t (.d ?_))))))
 exact afX
 refine ⟨rfl, (.f ⟨rfl, _, rfl, (.f (.f (sN h (fun mJ h => ?_) (fun mJ h => ?_))))⟩)⟩
 refine ⟨rfl, (.t ⟨rfl, _, rfl, (.t (.t (sN h (fun nr h => ?_) (fun nr h => ?_))))⟩)⟩
 refine .t (.t (.t (.t (.t (.f (.t (.f (.t (.d ?_)))))))))
 exact afX
 refine ⟨rfl, (.f ⟨rfl, _, rfl, (.f (.f (.t (.f (.f (.t (.f (sD h (fun mI h => ?_) (fun mI h => ?_)))))))))⟩)⟩
 refine .d ?_
 exact afX
 exact agS
 exact ahc
 refine .f (.f (.f (.f ⟨rfl, (.f ⟨rfl, _, rfl, (.f (.f (sN h (fun qu h => ?_) (fun qu h => ?_))))⟩)⟩)))
 refine ⟨rfl, (.t ⟨rfl, _, rfl, (.t (.t (sN h (fun iy h => ?_) (fun iy h => ?_))))⟩)⟩
 refine .t (.t (.t (.t (.t (.f (.t (.f (.t (.d ?_)))))))))
 exact afX
 refine ⟨rfl, (.f ⟨rfl, _, rfl, (.f (.f (.t (.f (.f (.t (.f (sD h (fun jt h => ?_) (fun jt h => ?_)))))))))⟩)⟩
 refine .d ?_
 exact afX
 exact agS
 exact ahc
 rintro _ _ ⟨rfl, rfl, rfl⟩
 replace h := mE
 obtain ⟨HY, EV, jS⟩ := bd h
 replace h := EV
 refine .cut (fun σ η => .inl () = HY ∧ σ = [] ∧ η = []) ?_ ?_
 refine .d ⟨rfl, ⟨rfl, _, rfl, (.d (sE h (fun eE h => ?_) (fun eE h => ?_)))⟩⟩
 refine .d ⟨rfl, ⟨rfl, _, rfl, ?_⟩⟩
 exact afV
 refine .d (sE h (fun kz h => ?_) (fun kz h => ?_))
 refine .d ⟨rfl, ⟨rfl, _, rfl, (sE h (fun jO h => ?_) (fun jO h => ?_))⟩⟩
 refine .t (.t (.t ?_))
 exact afV
 refine ⟨rfl, (.f ⟨rfl, _, rfl, (.f (.f ?_))⟩)⟩
 exact afV
 refine .d (sE h (fun lG h => ?_) (fun lG h => ?_))
 refine .d ⟨rfl, ⟨rfl, _, rfl, (bk h fun zt EF h => (bJ (vw EF) ?_))⟩⟩
 exact afV
 refine .d (sE h (fun pE h => ?_) (fun pE h => ?_))
 refine .d ⟨rfl, ⟨rfl, _, rfl, (sE h (fun kS h => ?_) (fun kS h => ?_))⟩⟩
 refine ⟨rfl, (.t ⟨rfl, _, rfl, (.t (.t (.t ?_)))⟩)⟩
 exact afV
 refine .f (.f (.f (.f ?_)))
 exact afV
 obtain ⟨Qx, M7, K5⟩ := bd h
 replace h := M7
 refine .cut (fun σ η => ∃ J5, J5 = Qx ∧ σ = [(1, .aG 0 0 0 0), (31, .int .i64 a0.aF), (63, .bool J5)] ∧ η = [.row 0 5 1 97 (fun _ => a0.lit)]) ?_ ?_
 refine .d (sE h (fun n7 h => ?_) (fun n7 h => ?_))
 exact agO
 refine .d (sE h (fun pD h => ?_) (fun pD h => ?_))
 exact agO
 exact agO
 rintro _ _ ⟨J5, rfl, rfl, rfl⟩
 replace h := K5
 refine sV h (fun qV h => ?_) (fun qV h => ?_)
 refine .d ⟨rfl, ⟨rfl, _, rfl, (bk h fun v30 Ig h => (bJ (vw Ig) ?_))⟩⟩
 exact afV
 refine .d (sE h (fun wg h => ?_) (fun wg h => ?_))
 refine .d (.d ⟨rfl, ⟨rfl, _, rfl, (sN h (fun yw h => ?_) (fun yw h => ?_))⟩⟩)
 refine .t (.t (.t (.t (.t (.d ?_)))))
 exact afV
 refine ⟨rfl, (.f ⟨rfl, _, rfl, (.f (bk h fun yJ U8 h => (bJ (vw U8) (.f (.f (hB h (fun EI h => ?_) (fun EI h => ?_)))))))⟩)⟩
 refine .d ?_
 exact afV
 refine .d ⟨row (mc (fun x : bH => PV.agg x.lit) (PV.bool)) ([] : List (bH × Bool)), ?_⟩
 obtain ⟨QU, VE, BH⟩ := bd h
 replace h := VE
 refine .cut (fun σ η => .inl () = QU ∧ σ = [] ∧ η = []) ?_ ?_
 refine .d ⟨rfl, ⟨rfl, _, rfl, ?_⟩⟩
 have ac3 := ac2 _ _ _ _ h
 refine le (tI (motive := fun p62 oA iC Mp => a0 = p62 → QU = Mp → aB _ _ [(1, .aG 0 0 0 0), (3, .lA 1), (83, sl 8 ae.cells a0.af), (84, .int .i64 (a0.af.length : Int)), (85, .int .i64 iC)] [.row 0 5 1 97 (fun _ => a0.lit), .row 0 2 oA.length 208 (row (mc (fun x : bH => PV.agg x.lit) (PV.bool)) oA)]) ?_ a0 ([] : List (bH × Bool)) 0 QU ac3 rfl rfl) (tk [0, 1] ⟨.p, .m, .l, .i, .i, ⟨⟩⟩ ⟨(bn rfl), ⟨fun h0 => absurd (show 1 < 0 from h0) ahx, rfl, .inl rfl, rfl, Fx (fun _ => rfl) (fun _ => rfl)⟩, ⟨⟩⟩)
 intro _ Oz _ _ p62 oA iC Mp h OA  V8 ac4
 subst V8
 subst ac4
 refine aB.round (.d (.d (sD h (fun EO h => ?_) (fun EO h => ?_))))
 refine .d (.d (bk h fun lF OB h => ⟨aK OB, _, (aD OB).trans (ae.aA lF), ⟨rfl, _, fun _ => [.bool lF.bm.df, .int .i64 lF.bm.aP, .str lF.bm.aQ, .int .i64 lF.aY.aF, .int .i64 lF.aY.aP, .str lF.aY.aQ, .int .i64 lF.aY.aO, sl 8 ae.cells lF.aY.af], rfl, ar rfl, (.d (.d ⟨rfl, ⟨rfl, _, rfl, (bk h fun HZ Nc h => (bJ (ac1 Nc) (hB h (fun Iv h => ?_) (fun Iv h => ?_))))⟩⟩))⟩⟩))
 refine .t (.t (.t (.t (.t (.t (.t (.t (.t (.t (.t (.t (.t (.t (.t ?_))))))))))))))
 refine .t (.t (.d ?_))
 obtain rfl := si h
 replace h := BH
 exact afV
 refine .f ⟨rfl, (.f ⟨rfl, _, rfl, (.f ⟨.bool (rY oA lF.bm false), tD oA lF.bm, rC (ti := wk.get 195) (c := fun x : bH => PV.agg x.lit) (d := PV.bool) (fun x y => congrArg some (bH.n8 x y)) oA lF.bm false, (.f (sV h (fun Iw h => ?_) (fun Iw h => ?_)))⟩)⟩)⟩
 refine .t (.t (.t (.t (.t (.t (.t (.t (.t (.t (.t (.t (.d ?_))))))))))))
 obtain rfl := si h
 replace h := BH
 exact afV
 refine ⟨rfl, (.f ⟨rfl, (.f ⟨rfl, _, rfl, (.f (.f (hB h (fun Bo h => ?_) (fun Bo h => ?_))))⟩)⟩)⟩
 refine ⟨rfl, (.t ⟨rfl, (.t ⟨rfl, _, rfl, (.t ⟨rfl, (.t ⟨rfl, _, rfl, (.t (.f (.t (.f (sD h (fun NB h => ?_) (fun NB h => ?_))))))⟩)⟩)⟩)⟩)⟩
 refine .t (.t (.t (.t (.t (.d ?_)))))
 obtain rfl := si h
 replace h := BH
 exact afV
 refine ⟨rfl, (.f ⟨rfl, _, rfl, (.f (bk h fun vH ac5 h => (bJ (Oz _ _ ac5) (.f (.f (hB h (fun ac6 h => ?_) (fun ac6 h => ?_)))))))⟩)⟩
 refine .d ?_
 obtain rfl := si h
 replace h := BH
 exact afV
 exact ⟨rfl, ⟨rfl, _, rfl, ⟨(fX oA lF.bm true).length, row (mc (fun x : bH => PV.agg x.lit) (PV.bool)) (fX oA lF.bm true), uS (ti := wk.get 195) (c := fun x : bH => PV.agg x.lit) (d := PV.bool) (fun x y => congrArg some (bH.n8 x y)) oA lF.bm true, (lg (OA _ _ _ _ h rfl rfl) (tk [0, 1] ⟨.p, .m, .l, .i, .i, ⟨⟩⟩ ⟨(bn rfl), ⟨fun h0 => absurd (show 1 < 0 from h0) ahx, rfl, .inl rfl, rfl, Fx (fun _ => rfl) (fun _ => rfl)⟩, ⟨⟩⟩))⟩⟩⟩
 refine .f (.f (.f (.f (.f (.f (.f (.f (.f ⟨rfl, (.f ⟨rfl, _, rfl, (.f (bk h fun rF N5 h => (bJ (Oz _ _ N5) ?_)))⟩)⟩))))))))
 refine .f (.f (hB h (fun Bj h => ?_) (fun Bj h => ?_)))
 refine .d ?_
 obtain rfl := si h
 replace h := BH
 exact afV
 exact ⟨rfl, ⟨rfl, _, rfl, ⟨(fX oA lF.bm true).length, row (mc (fun x : bH => PV.agg x.lit) (PV.bool)) (fX oA lF.bm true), uS (ti := wk.get 195) (c := fun x : bH => PV.agg x.lit) (d := PV.bool) (fun x y => congrArg some (bH.n8 x y)) oA lF.bm true, (lg (OA _ _ _ _ h rfl rfl) (tk [0, 1] ⟨.p, .m, .l, .i, .i, ⟨⟩⟩ ⟨(bn rfl), ⟨fun h0 => absurd (show 1 < 0 from h0) ahx, rfl, .inl rfl, rfl, Fx (fun _ => rfl) (fun _ => rfl)⟩, ⟨⟩⟩))⟩⟩⟩
 exact agQ
 rintro _ _ ⟨rfl, rfl, rfl⟩
 replace h := BH
 refine .d ?_
 exact afV
 exact agQ
 rintro _ _ ⟨rfl, rfl, rfl⟩
 replace h := jS
 exact agP
 intro F0 F1 CS CT a0 oA iC o h
 exact .mk F0 CS F1 CT a0 oA iC o h
theorem Az {a0 : ah} {r : Bool} (h : gd a0 = some r) : ACall Tryz.prog 112 [.agg a0.lit] [] (fun res h => res = .bool r ∧ h = []) := xG.1 a0 r h
def iT (a0 : ah) : Option (Bool) :=
 mj a0 >>= fun v1 =>
 (if v1 ≤ 200 then
 gd a0 >>= fun v4 =>
 some v4
 else
 some false)
theorem xm {a0 : ah} {r : Bool} (h : iT a0 = some r) : ACall Tryz.prog 56 [.agg a0.lit] [] (fun res h => res = .bool r ∧ h = []) := by
 refine dx Tryz.func56 ?_
 unfold iT at h
 refine .d (.d ⟨rfl, _, rfl, (bk h fun v1 rq h => (bJ (Hp rq) (sD h (fun lE h => ?_) (fun lE h => ?_))))⟩)
 exact ⟨rfl, _, rfl, (.t (bk h fun v4 CU h => (bJ (Az CU) (.t (eB h)))))⟩
 exact ahl
set_option maxRecDepth 100000
def gO (a0 : aN) (a1 : aU) (y4 : Int) : Option ((Unit) ⊕ Int) :=
 (if y4 < (a0.a6.length : Int) then
 idx a0.a6 y4 >>= fun x8 =>
 (if x8.az = a1 then
 some (.inr y4)
 else
 gO a0 a1 (ai (y4 + 1)))
 else
 some (.inl ()))
partial_fixpoint
def fU (a0 : aN) (a1 : aU) : Option (Int) :=
 ((
 gO a0 a1 0
 : Option ((Unit) ⊕ Int)) >>= fun o1 => match o1 with
 | .inr r => some r
 | .inl _ =>
 some (-1)
 )
theorem vP {a0 : aN} {a1 : aU} {r : Int} (h : fU a0 a1 = some r) : ACall Tryz.prog 43 [.agg a0.lit, .str a1] [] (fun res h => res = .int .i64 r ∧ h = []) := by
 refine dx Tryz.func43 ?_
 unfold fU at h
 refine .d ?_
 obtain ⟨o1, yz, mE⟩ := bd h
 replace h := yz
 refine .cut (fun σ η => .inl () = o1 ∧ σ = [] ∧ η = []) ?_ ?_
 refine .d ?_
 refine le (gO.partial_correctness a0 a1 (motive := fun y4 MT => o1 = MT → aB _ _ [(1, .str a1), (2, .aG 0 0 0 0), (5, .int .i64 y4)] [.row 0 2 1 33 (fun _ => a0.lit)]) ?_ 0 o1 h rfl) (tk [0] ⟨.s, .p, .i, ⟨⟩⟩ ⟨(bn rfl), ⟨⟩⟩)
 intro F6 MS y4 MT h Il
 subst Il
 refine aB.round (.d (.d ⟨rfl, ⟨rfl, _, rfl, (sD h (fun nr h => ?_) (fun nr h => ?_))⟩⟩))
 refine .d (.d ⟨rfl, ⟨rfl, _, rfl, (bk h fun x8 Ar h => ⟨aK Ar, _, (aD Ar).trans (aC.aA x8), (sE h (fun iy h => ?_) (fun iy h => ?_))⟩)⟩⟩)
 refine .d ?_
 exact agn
 exact lg (MS _ _ h rfl) (tk [0] ⟨.s, .p, .i, ⟨⟩⟩ ⟨(bn rfl), ⟨⟩⟩)
 exact agQ
 exact agl
def fI (a0 : List aw) (a1 : aU) (y4 : Int) : Option ((Unit) ⊕ Int) :=
 (if y4 < (a0.length : Int) then
 idx a0 y4 >>= fun x8 =>
 (if x8.az = a1 then
 some (.inr y4)
 else
 fI a0 a1 (ai (y4 + 1)))
 else
 some (.inl ()))
partial_fixpoint
def ku (a0 : List aw) (a1 : aU) : Option (Int) :=
 ((
 fI a0 a1 0
 : Option ((Unit) ⊕ Int)) >>= fun o1 => match o1 with
 | .inr r => some r
 | .inl _ =>
 some (-1)
 )
theorem B6 {a0 : List aw} {a1 : aU} {r : Int} (h : ku a0 a1 = some r) : ACall Tryz.prog 45 [sl 4 aw.cells a0, .str a1] [] (fun res h => res = .int .i64 r ∧ h = []) := by
 refine dx Tryz.func45 ?_
 unfold ku at h
 refine .d ?_
 obtain ⟨o1, yz, mE⟩ := bd h
 replace h := yz
 refine .cut (fun σ η => .inl () = o1 ∧ σ = [] ∧ η = []) ?_ ?_
 refine .d ?_
 refine le (fI.partial_correctness a0 a1 (motive := fun y4 MT => o1 = MT → aB _ _ [(0, sl 4 aw.cells a0), (1, .str a1), (5, .int .i64 y4)] []) ?_ 0 o1 h rfl) (tk [] ⟨.l, .s, .i, ⟨⟩⟩ ⟨⟩)
 intro F6 MS y4 MT h Il
 subst Il
 refine aB.round (.d (.d (sD h (fun nr h => ?_) (fun nr h => ?_))))
 refine .d (.d (bk h fun x8 Ar h => ⟨aK Ar, _, (aD Ar).trans (aw.aA x8), (sE h (fun iy h => ?_) (fun iy h => ?_))⟩))
 refine .d ?_
 exact agn
 exact lg (MS _ _ h rfl) (tk [] ⟨.l, .s, .i, ⟨⟩⟩ ⟨⟩)
 exact agQ
 exact agl
def dO (a0 : aN) (zJ : Int) : Option ((Unit) ⊕ Bool) :=
 (if zJ < (a0.a6.length : Int) then
 idx a0.a6 zJ >>= fun MA =>
 fU a0 MA.az >>= fun kK =>
 (if kK = zJ then
 idx a0.a6 zJ >>= fun TY =>
 mf TY >>= fun v28 =>
 (if v28 = true then
 dO a0 (ai (zJ + 1))
 else
 some (.inr false))
 else
 some (.inr false))
 else
 some (.inl ()))
partial_fixpoint
def cg (Kk : Bool) (qW : aw) (Dh : au) (Re : au) (DU : Int) (sc : Int) : Option ((Int × Bool × aU × Bool × Bool) ⊕ ((Unit) ⊕ ((Unit) ⊕ ((Unit) ⊕ Bool)))) :=
 (if sc < DU then
 idx qW.aH sc >>= fun Rf =>
 idx qW.aH DU >>= fun x82 =>
 (if Rf.az = x82.az then
 some (.inr (.inr (.inr (.inr false))))
 else
 cg Kk qW Dh Re DU (ai (sc + 1)))
 else
 some (.inl (Dh.bc.aF, (decide (Dh.bc.aF > 3)), Re.az, Kk, (!Kk))))
partial_fixpoint
def cW (qW : aw) (DU : Int) : Option ((Unit) ⊕ ((Unit) ⊕ ((Unit) ⊕ Bool))) :=
 (if DU < (qW.aH.length : Int) then
 ((
 idx qW.aH DU >>= fun x63 =>
 m22 x63.bc >>= fun CN =>
 (if CN = true then
 idx qW.aH DU >>= fun Dh =>
 (if Dh.bc.aF > 3 then
 some (.inr (.inr (.inr (.inr false))))
 else
 idx qW.aH DU >>= fun Re =>
 gT Re.az >>= fun Kk =>
 (if Kk = true then
 cg Kk qW Dh Re DU 0
 else
 some (.inr (.inr (.inr (.inr false))))))
 else
 some (.inr (.inr (.inr (.inr false)))))
 : Option ((Int × Bool × aU × Bool × Bool) ⊕ ((Unit) ⊕ ((Unit) ⊕ ((Unit) ⊕ Bool))))) >>= fun Mp => match Mp with
 | .inr r => some r
 | .inl (Qe, Qf, s57, b58, b59) =>
 cW qW (ai (DU + 1))
 )
 else
 some (.inl ()))
partial_fixpoint
def cZ (a0 : aN) (qW : aw) (V9 : Int) : Option ((Unit) ⊕ ((Unit) ⊕ Bool)) :=
 (if V9 < (qW.aE.length : Int) then
 idx qW.aE V9 >>= fun x93 =>
 nz x93.nB [58, 58] >>= fun s95 =>
 idx qW.aE V9 >>= fun x97 =>
 nz s95 x97.az >>= fun s99 =>
 fU a0 s99 >>= fun Rg =>
 (if Rg < 0 then
 some (.inr (.inr false))
 else
 idx a0.a6 Rg >>= fun Wa =>
 kZ Wa >>= fun ZH =>
 (if ZH = true then
 some (.inr (.inr false))
 else
 idx a0.a6 Rg >>= fun Wb =>
 (if (Wb.aM.length : Int) > 0 then
 some (.inr (.inr false))
 else
 cZ a0 qW (ai (V9 + 1)))))
 else
 some (.inl ()))
partial_fixpoint
def dt (a0 : aN) (wV : Int) : Option ((Unit) ⊕ Bool) :=
 (if wV < (a0.aJ.length : Int) then
 ((
 idx a0.aJ wV >>= fun qW =>
 ku a0.aJ qW.az >>= fun Mh =>
 (if Mh = wV then
 ((
 cW qW 0
 : Option ((Unit) ⊕ ((Unit) ⊕ ((Unit) ⊕ Bool)))) >>= fun ZI => match ZI with
 | .inr r => some r
 | .inl _ =>
 cZ a0 qW 0
 )
 else
 some (.inr (.inr false)))
 : Option ((Unit) ⊕ ((Unit) ⊕ Bool))) >>= fun Ic => match Ic with
 | .inr r => some r
 | .inl _ =>
 dt a0 (ai (wV + 1))
 )
 else
 some (.inl ()))
partial_fixpoint
def lT (a0 : aN) : Option (Bool) :=
 (if (a0.a6.length : Int) > 5000 then
 some false
 else
 (if (a0.aJ.length : Int) = 0 then
 some false
 else
 idx a0.aJ 0 >>= fun x3 =>
 (if x3.az = ([69, 114, 114, 111, 114] : aU) then
 idx a0.aJ 0 >>= fun x6 =>
 (if (x6.aH.length : Int) = 0 then
 some false
 else
 idx a0.aJ 0 >>= fun x9 =>
 idx x9.aH 0 >>= fun qq =>
 (if qq.az = ([109, 101, 115, 115, 97, 103, 101] : aU) then
 ((
 dO a0 0
 : Option ((Unit) ⊕ Bool)) >>= fun HV => match HV with
 | .inr r => some r
 | .inl _ =>
 ((
 dt a0 0
 : Option ((Unit) ⊕ Bool)) >>= fun J4 => match J4 with
 | .inr r => some r
 | .inl _ =>
 some true
 )
 )
 else
 some false))
 else
 some false)))
theorem BA {a0 : aN} {r : Bool} (h : lT a0 = some r) : ACall Tryz.prog 20 [.agg a0.lit] [] (fun res h => res = .bool r ∧ h = []) := by
 refine dx Tryz.func20 ?_
 unfold lT at h
 refine .d (.d (.d ⟨rfl, ⟨rfl, _, rfl, (sD h (fun eD h => ?_) (fun eD h => ?_))⟩⟩))
 refine .t (.t (.t (.t (.t (.t (.t (.t (.t (.t (.t (.t (.t (.t (.t ?_))))))))))))))
 refine .t (.t (.t (.t (.t (.t (.t (.t (.t (.t (.t (.t (.t (.t (.t ?_))))))))))))))
 exact agP
 refine ⟨rfl, (.f ⟨rfl, _, rfl, (.f (.f (.f (sE h (fun jo h => ?_) (fun jo h => ?_)))))⟩)⟩
 refine .t (.t (.t (.t (.t (.t (.t (.t (.t (.t (.t (.t (.t (.t (.t ?_))))))))))))))
 exact ahi
 refine ⟨rfl, (.f ⟨rfl, _, rfl, (.f (bk h fun x3 Sv h => ⟨aK Sv, _, (aD Sv).trans (aw.aA x3), (.f (.f (.f (.f (nq h (fun lY h => ?_) (fun lY h => ?_))))))⟩))⟩)⟩
 refine .t (.t (.t (.t (.t (.t (.t (.t (.t (.t (.t (.t (.t (.t (.t ?_))))))))))))))
 exact .t (.t (.t (.d (eB h))))
 refine ⟨rfl, (.f ⟨rfl, _, rfl, (.f (bk h fun x6 ZB h => ⟨aK ZB, _, (aD ZB).trans (aw.aA x6), (.f (.f (.f (.f (.f (sE h (fun mI h => ?_) (fun mI h => ?_)))))))⟩))⟩)⟩
 exact ahi
 refine ⟨rfl, (.f ⟨rfl, _, rfl, (.f (bk h fun x9 iN h => ⟨aK iN, _, (aD iN).trans (aw.aA x9), (.f (.f (.f (bk h fun qq iB h => ⟨aK iB, _, (aD iB).trans (au.aA qq), (.f (.f (.f (.f ?_))))⟩))))⟩))⟩)⟩
 refine nq h (fun kM h => ?_) (fun kM h => ?_)
 exact agP
 obtain ⟨HV, T8, M4⟩ := bd h
 replace h := T8
 refine .cut (fun σ η => .inl () = HV ∧ σ = [(1, .aG 0 0 0 0)] ∧ η = [.row 0 2 1 33 (fun _ => a0.lit)]) ?_ ?_
 refine .d ?_
 refine le (dO.partial_correctness a0 (motive := fun zJ Mf => HV = Mf → aB _ _ [(1, .aG 0 0 0 0), (3, .int .i64 zJ)] [.row 0 2 1 33 (fun _ => a0.lit)]) ?_ 0 HV h rfl) (tk [0] ⟨.p, .i, ⟨⟩⟩ ⟨(bn rfl), ⟨⟩⟩)
 intro Qs ac7 zJ Mf h TT
 subst TT
 refine aB.round (.d (.d ⟨rfl, ⟨rfl, _, rfl, (sD h (fun pH h => ?_) (fun pH h => ?_))⟩⟩))
 refine .d (.d (.float [(0, true), (1, true), (2, true), (3, true), (4, true), (5, true), (6, true), (8, true), (7, false), (9, true), (10, true), (11, true), (12, true), (13, true), (14, true), (15, true), (16, false), (17, true), (18, true)] ahA ?_))
 refine ⟨rfl, _, rfl, ⟨rfl, ⟨rfl, _, rfl, (bk h fun MA Et h => ⟨aK Et, _, (aD Et).trans (aC.aA MA), (bk h fun kK tO h => (bJ (vP tO) (sN h (fun ny h => ?_) (fun ny h => ?_))))⟩)⟩⟩⟩
 refine .t (.t (.t (.t (.t (.t (.t (.t (.d ?_))))))))
 obtain rfl := si h
 replace h := M4
 exact eB h
 refine ⟨rfl, (.f ⟨rfl, _, rfl, (.f (.f (bk h fun TY EG h => ⟨aK EG, _, (aD EG).trans (aC.aA TY), (.f (.f (bk h fun v28 yq h => (bJ (GB yq) (.f (.f (hB h (fun qU h => ?_) (fun qU h => ?_))))))))⟩)))⟩)⟩
 refine .d ?_
 obtain rfl := si h
 replace h := M4
 exact eB h
 exact lg (ac7 _ _ h rfl) (tk [0] ⟨.p, .i, ⟨⟩⟩ ⟨(bn rfl), ⟨⟩⟩)
 exact agS
 rintro _ _ ⟨rfl, rfl, rfl⟩
 replace h := M4
 obtain ⟨J4, Im, wj⟩ := bd h
 replace h := Im
 refine .cut (fun σ η => .inl () = J4 ∧ σ = [] ∧ η = []) ?_ ?_
 refine .d ?_
 refine le (dt.partial_correctness a0 (motive := fun wV ZJ => J4 = ZJ → aB _ _ [(1, .aG 0 0 0 0), (4, .int .i64 wV)] [.row 0 2 1 33 (fun _ => a0.lit)]) ?_ 0 J4 h rfl) (tk [0] ⟨.p, .i, ⟨⟩⟩ ⟨(bn rfl), ⟨⟩⟩)
 intro P4 La wV ZJ h ZK
 subst ZK
 refine aB.round (.d (.d ⟨rfl, ⟨rfl, _, rfl, (sD h (fun pK h => ?_) (fun pK h => ?_))⟩⟩))
 obtain ⟨Ic, U2, Bz⟩ := bd h
 replace h := U2
 refine .cut (fun σ η => .inl () = Ic ∧ σ = [(1, .aG 0 0 0 0), (4, .int .i64 wV)] ∧ η = [.row 0 2 1 33 (fun _ => a0.lit)]) ?_ ?_
 refine .d ⟨rfl, ⟨rfl, _, rfl, (bk h fun qW GA h => ⟨aK GA, _, (aD GA).trans (aw.aA qW), ⟨rfl, _, fun _ => [.str qW.az, .str qW.dp, sl 8 au.cells qW.aH, sl 5 aj.cells qW.aE], rfl, ar rfl, (.d (.d ⟨rfl, ⟨rfl, _, rfl, ⟨rfl, ⟨rfl, _, rfl, (bk h fun Mh Ut h => (bJ (B6 Ut) (sN h (fun Iq h => ?_) (fun Iq h => ?_))))⟩⟩⟩⟩))⟩⟩)⟩⟩
 refine .d ?_
 obtain rfl := si h
 exact agH
 obtain ⟨ZI, ac8, OD⟩ := bd h
 replace h := ac8
 refine .cut (fun σ η => .inl () = ZI ∧ σ = [(1, .aG 0 0 0 0), (4, .int .i64 wV), (5, .aG 1 0 0 0)] ∧ η = [.row 0 2 1 33 (fun _ => a0.lit), .row 0 4 1 68 (fun _ => qW.lit)]) ?_ ?_
 refine .d ?_
 refine le (cW.partial_correctness qW (motive := fun DU Zd => ZI = Zd → aB _ _ [(1, .aG 0 0 0 0), (4, .int .i64 wV), (5, .aG 1 0 0 0), (6, .int .i64 DU)] [.row 0 2 1 33 (fun _ => a0.lit), .row 0 4 1 68 (fun _ => qW.lit)]) ?_ 0 ZI h rfl) (tk [0, 1] ⟨.p, .i, .p, .i, ⟨⟩⟩ ⟨(bn rfl), (bn rfl), ⟨⟩⟩)
 intro F53 ac9 DU Zd h VA
 subst VA
 refine aB.round (.d (.d ⟨rfl, ⟨rfl, _, rfl, (sD h (fun Wc h => ?_) (fun Wc h => ?_))⟩⟩))
 obtain ⟨Mp, Vz, I2⟩ := bd h
 replace h := Vz
 refine .cut (fun σ η => ∃ Qe, ∃ Qf, ∃ s57, ∃ b58, ∃ b59, .inl (Qe, Qf, s57, b58, b59) = Mp ∧ σ = [(1, .aG 0 0 0 0), (4, .int .i64 wV), (5, .aG 1 0 0 0), (6, .int .i64 DU), (109, .aG 1 0 0 2), (110, sl 8 au.cells qW.aH), (111, .int .i64 DU), (115, .int .i64 Qe), (116, .bool Qf), (119, .aG 1 0 0 2), (120, sl 8 au.cells qW.aH), (121, .int .i64 DU), (124, .str s57), (125, .bool b58), (126, .bool b59)] ∧ η = [.row 0 2 1 33 (fun _ => a0.lit), .row 0 4 1 68 (fun _ => qW.lit)]) ?_ ?_
 refine .d (.d ⟨rfl, ⟨rfl, _, rfl, (bk h fun x63 ZL h => ⟨aK ZL, _, (aD ZL).trans (au.aA x63), (bk h fun CN Lc h => (bJ (ZF Lc) (hB h (fun N7 h => ?_) (fun N7 h => ?_))))⟩)⟩⟩)
 refine .t (.t (.t (.t (.t (.t (.t (.t (.t (.t (.t (.t (.t (.t (.t ?_))))))))))))))
 refine .t (.t (.t (.d ?_)))
 obtain rfl := si h
 replace h := I2
 obtain rfl := si h
 replace h := OD
 obtain rfl := si h
 exact agH
 refine ⟨rfl, (.f ⟨rfl, _, rfl, (.f (.f (bk h fun Dh OE h => ⟨aK OE, _, (aD OE).trans (au.aA Dh), (.f (.f (.f (.f (.f (sD h (fun ada h => ?_) (fun ada h => ?_)))))))⟩)))⟩)⟩
 refine .t (.t (.t (.t (.t (.t (.t (.t (.t (.d ?_)))))))))
 obtain rfl := si h
 replace h := I2
 obtain rfl := si h
 replace h := OD
 obtain rfl := si h
 exact agH
 refine ⟨rfl, (.f ⟨rfl, _, rfl, (.f (.f (bk h fun Re ZM h => ⟨aK ZM, _, (aD ZM).trans (au.aA Re), (.f (.f (.f (bk h fun Kk Va h => (bJ (oV Va) (.f (.f (hB h (fun VB h => ?_) (fun VB h => ?_)))))))))⟩)))⟩)⟩
 refine .d ?_
 obtain rfl := si h
 replace h := I2
 obtain rfl := si h
 replace h := OD
 obtain rfl := si h
 exact agH
 refine .d ?_
 refine le (cg.partial_correctness Kk qW Dh Re DU (motive := fun sc Sy => Mp = Sy → aB _ _ [(1, .aG 0 0 0 0), (4, .int .i64 wV), (5, .aG 1 0 0 0), (6, .int .i64 DU), (7, .int .i64 sc), (109, .aG 1 0 0 2), (110, sl 8 au.cells qW.aH), (111, .int .i64 DU), (115, .int .i64 Dh.bc.aF), (116, .bool (decide (Dh.bc.aF > 3))), (119, .aG 1 0 0 2), (120, sl 8 au.cells qW.aH), (121, .int .i64 DU), (124, .str Re.az), (125, .bool Kk), (126, .bool (!Kk))] [.row 0 2 1 33 (fun _ => a0.lit), .row 0 4 1 68 (fun _ => qW.lit)]) ?_ 0 Mp h rfl) (tk [0, 1] ⟨.p, .i, .p, .i, .i, .p, .l, .i, .i, .b, .p, .l, .i, .s, .b, .b, ⟨⟩⟩ ⟨(bn rfl), (bn rfl), ⟨⟩⟩)
 intro F78 Vp sc Sy h N6
 subst N6
 refine aB.round (.d (.d (sD h (fun Wd h => ?_) (fun Wd h => ?_))))
 refine .d (.d ⟨rfl, ⟨rfl, _, rfl, (bk h fun Rf OF h => ⟨aK OF, _, (aD OF).trans (au.aA Rf), ⟨rfl, ⟨rfl, _, rfl, (bk h fun x82 Fl h => ⟨aK Fl, _, (aD Fl).trans (au.aA x82), (sE h (fun adb h => ?_) (fun adb h => ?_))⟩)⟩⟩⟩)⟩⟩)
 refine .d ?_
 obtain rfl := si h
 replace h := I2
 obtain rfl := si h
 replace h := OD
 obtain rfl := si h
 exact agH
 exact lg (Vp _ _ h rfl) (tk [0, 1] ⟨.p, .i, .p, .i, .i, .p, .l, .i, .i, .b, .p, .l, .i, .s, .b, .b, ⟨⟩⟩ ⟨(bn rfl), (bn rfl), ⟨⟩⟩)
 exact ct ⟨_, _, _, _, _, si h, rfl, rfl⟩ (tk [0, 1] ⟨.p, .i, .p, .i, .p, .l, .i, .i, .b, .p, .l, .i, .s, .b, .b, ⟨⟩⟩ ⟨(bn rfl), (bn rfl), ⟨⟩⟩)
 rintro _ _ ⟨Qe, Qf, s57, b58, b59, rfl, rfl, rfl⟩
 replace h := I2
 exact lg (ac9 _ _ h rfl) (tk [0, 1] ⟨.p, .i, .p, .i, ⟨⟩⟩ ⟨(bn rfl), (bn rfl), ⟨⟩⟩)
 exact ct ⟨si h, rfl, rfl⟩ (tk [0, 1] ⟨.p, .i, .p, ⟨⟩⟩ ⟨(bn rfl), (bn rfl), ⟨⟩⟩)
 rintro _ _ ⟨rfl, rfl, rfl⟩
 replace h := OD
 refine .d ?_
 refine le (cZ.partial_correctness a0 qW (motive := fun V9 ZN => Ic = ZN → aB _ _ [(1, .aG 0 0 0 0), (4, .int .i64 wV), (5, .aG 1 0 0 0), (8, .int .i64 V9)] [.row 0 2 1 33 (fun _ => a0.lit), .row 0 4 1 68 (fun _ => qW.lit)]) ?_ 0 Ic h rfl) (tk [0, 1] ⟨.p, .i, .p, .i, ⟨⟩⟩ ⟨(bn rfl), (bn rfl), ⟨⟩⟩)
 intro F91 ade V9 ZN h ZO
 subst ZO
 refine aB.round (.d (.d ⟨rfl, ⟨rfl, _, rfl, (sD h (fun adf h => ?_) (fun adf h => ?_))⟩⟩))
 refine .d (.d (.float [(0, true), (1, true), (2, true), (3, true), (4, true), (5, true), (6, true), (7, true), (8, true), (9, true), (10, true), (11, true), (12, true), (13, true), (14, true), (15, false), (16, true)] ahA ?_))
 refine ⟨rfl, _, rfl, ⟨rfl, ⟨rfl, _, rfl, (bk h fun x93 ZP h => ⟨aK ZP, _, (aD ZP).trans (aj.aA x93), (bk h fun s95 ZQ h => ⟨fM ZQ, s95, fN ZQ, ⟨rfl, ⟨rfl, _, rfl, (bk h fun x97 G4 h => ⟨aK G4, _, (aD G4).trans (aj.aA x97), (bk h fun s99 SO h => ⟨fM SO, s99, fN SO, (bk h fun Rg ZR h => (bJ (vP ZR) ?_))⟩)⟩)⟩⟩⟩)⟩)⟩⟩⟩
 refine .d (sD h (fun ZS h => ?_) (fun ZS h => ?_))
 refine .t (.t (.t (.t (.t (.t (.t (.t (.t (.t (.t (.t (.t (.t (.t ?_))))))))))))))
 refine .t (.d ?_)
 obtain rfl := si h
 exact agH
 refine ⟨rfl, (.f ⟨rfl, _, rfl, (.f (.f (bk h fun Wa SP h => ⟨aK SP, _, (aD SP).trans (aC.aA Wa), (.f (.f (bk h fun ZH ZT h => (bJ (zx ZT) (.f (sV h (fun N3 h => ?_) (fun N3 h => ?_)))))))⟩)))⟩)⟩
 refine .t (.t (.t (.t (.t (.t (.t (.t (.t (.d ?_)))))))))
 obtain rfl := si h
 exact agH
 refine ⟨rfl, (.f ⟨rfl, _, rfl, (.f (.f (bk h fun Wb SQ h => ⟨aK SQ, _, (aD SQ).trans (aC.aA Wb), (.f (.f (.f (.f (.f (sD h (fun ZU h => ?_) (fun ZU h => ?_)))))))⟩)))⟩)⟩
 refine .d ?_
 obtain rfl := si h
 exact agH
 exact lg (ade _ _ h rfl) (tk [0, 1] ⟨.p, .i, .p, .i, ⟨⟩⟩ ⟨(bn rfl), (bn rfl), ⟨⟩⟩)
 exact ct ⟨si h, rfl, rfl⟩ (tk [0] ⟨.p, .i, ⟨⟩⟩ ⟨(bn rfl), ⟨⟩⟩)
 rintro _ _ ⟨rfl, rfl, rfl⟩
 replace h := Bz
 exact lg (La _ _ h rfl) (tk [0] ⟨.p, .i, ⟨⟩⟩ ⟨(bn rfl), ⟨⟩⟩)
 exact agQ
 rintro _ _ ⟨rfl, rfl, rfl⟩
 replace h := wj
 exact agP
def fJ (a0 : aN) (l7 : List (aU × Int)) (y8 : Int) : Option (((List (aU × Int))) ⊕ Bool) :=
 (if y8 < (a0.a6.length : Int) then
 idx a0.a6 y8 >>= fun vC =>
 (if (tD l7 vC.az) = true then
 some (.inr false)
 else
 jU vC >>= fun tW =>
 (if tW = true then
 fJ a0 (fX l7 vC.az y8) (ai (y8 + 1))
 else
 some (.inr false)))
 else
 some (.inl l7))
partial_fixpoint
def cw (tu : aw) (vy : List (aU × Bool)) (Xz : Int) : Option ((Unit) ⊕ (((List (aU × Bool))) ⊕ ((Unit) ⊕ Bool))) :=
 (if Xz < (tu.aH.length : Int) then
 idx tu.aH Xz >>= fun Di =>
 (if (rY vy Di.az false) = true then
 some (.inr (.inr (.inr false)))
 else
 eY Di.az >>= fun v53 =>
 (if v53 = true then
 iT Di.bc >>= fun qX =>
 (if qX = true then
 zu Di.bc.aF 0 3 >>= fun v59 =>
 (if v59 = true then
 cw tu (fX vy Di.az true) (ai (Xz + 1))
 else
 some (.inr (.inr (.inr false))))
 else
 some (.inr (.inr (.inr false))))
 else
 some (.inr (.inr (.inr false)))))
 else
 some (.inl ()))
partial_fixpoint
def c8 (a0 : aN) (l3 : List (aU × Int)) (qh : List (aU × Bool)) (tu : aw) (XA : Int) : Option (((List (aU × Bool))) ⊕ ((Unit) ⊕ Bool)) :=
 (if XA < (tu.aE.length : Int) then
 idx tu.aE XA >>= fun Dh =>
 nz Dh.nB [58, 58] >>= fun r8 =>
 nz r8 Dh.az >>= fun SR =>
 (if (tD l3 SR) = true then
 idx a0.a6 (rY l3 SR 0) >>= fun x75 =>
 jT x75 >>= fun ig =>
 (if ig = true then
 some (.inr (.inr false))
 else
 idx a0.a6 (rY l3 SR 0) >>= fun Rf =>
 (if (Rf.aM.length : Int) > 0 then
 some (.inr (.inr false))
 else
 c8 a0 l3 qh tu (ai (XA + 1))))
 else
 some (.inr (.inr false)))
 else
 some (.inl (fX qh tu.az true)))
partial_fixpoint
def da (a0 : aN) (l3 : List (aU × Int)) (qh : List (aU × Bool)) (Gg : Int) : Option ((Unit) ⊕ Bool) :=
 (if Gg < (a0.aJ.length : Int) then
 ((
 idx a0.aJ Gg >>= fun tu =>
 (if (rY qh tu.az false) = true then
 some (.inr (.inr false))
 else
 ((
 cw tu ([] : List (aU × Bool)) 0
 : Option ((Unit) ⊕ (((List (aU × Bool))) ⊕ ((Unit) ⊕ Bool)))) >>= fun Gd => match Gd with
 | .inr r => some r
 | .inl _ =>
 c8 a0 l3 qh tu 0
 ))
 : Option (((List (aU × Bool))) ⊕ ((Unit) ⊕ Bool))) >>= fun Uq => match Uq with
 | .inr r => some r
 | .inl CL =>
 da a0 l3 CL (ai (Gg + 1))
 )
 else
 some (.inl ()))
partial_fixpoint
def lU (a0 : aN) : Option (Bool) :=
 (if (a0.a6.length : Int) > 5000 then
 some false
 else
 (if (a0.aJ.length : Int) = 0 then
 some false
 else
 ((
 fJ a0 ([] : List (aU × Int)) 0
 : Option (((List (aU × Int))) ⊕ Bool)) >>= fun o4 => match o4 with
 | .inr r => some r
 | .inl l3 =>
 idx a0.aJ 0 >>= fun we =>
 (if we.az = ([69, 114, 114, 111, 114] : aU) then
 (if (we.aH.length : Int) = 0 then
 some false
 else
 idx we.aH 0 >>= fun Qu =>
 (if Qu.az = ([109, 101, 115, 115, 97, 103, 101] : aU) then
 ((
 da a0 l3 ([] : List (aU × Bool)) 0
 : Option ((Unit) ⊕ Bool)) >>= fun Sk => match Sk with
 | .inr r => some r
 | .inl _ =>
 some true
 )
 else
 some false))
 else
 some false)
 )))
theorem BG {a0 : aN} {r : Bool} (h : lU a0 = some r) : ACall Tryz.prog 24 [.agg a0.lit] [] (fun res h => res = .bool r ∧ h = []) := by
 refine dx Tryz.func24 ?_
 unfold lU at h
 refine .d (.d (.d ⟨rfl, ⟨rfl, _, rfl, (sD h (fun eD h => ?_) (fun eD h => ?_))⟩⟩))
 exact .t (.t (.t (.t (.t (.d (eB h))))))
 refine ⟨rfl, (.f ⟨rfl, _, rfl, (.f (.f (.f (sE h (fun jo h => ?_) (fun jo h => ?_)))))⟩)⟩
 exact agP
 refine .d ⟨row (mc (PV.str) (PV.int .i64)) ([] : List (aU × Int)), ?_⟩
 obtain ⟨o4, QN, NS⟩ := bd h
 replace h := QN
 refine .cut (fun σ η => ∃ l3, .inl l3 = o4 ∧ σ = [(1, .aG 0 0 0 0), (3, .lA 1)] ∧ η = [.row 0 2 1 33 (fun _ => a0.lit), .row 0 2 l3.length 112 (row (mc (PV.str) (PV.int .i64)) l3)]) ?_ ?_
 refine .d ⟨rfl, ⟨rfl, _, rfl, ?_⟩⟩
 refine le (fJ.partial_correctness a0 (motive := fun l7 y8 HX => o4 = HX → aB _ _ [(1, .aG 0 0 0 0), (3, .lA 1), (31, sl 6 aC.cells a0.a6), (32, .int .i64 (a0.a6.length : Int)), (33, .int .i64 y8)] [.row 0 2 1 33 (fun _ => a0.lit), .row 0 2 l7.length 112 (row (mc (PV.str) (PV.int .i64)) l7)]) ?_ ([] : List (aU × Int)) 0 o4 h rfl) (tk [0, 1] ⟨.p, .m, .l, .i, .i, ⟨⟩⟩ ⟨(bn rfl), nw, ⟨⟩⟩)
 intro F10 Vf l7 y8 HX h ML
 subst ML
 refine aB.round (.d (.d (sD h (fun jt h => ?_) (fun jt h => ?_))))
 refine .d (.d (bk h fun vC rH h => ⟨aK rH, _, (aD rH).trans (aC.aA vC), ⟨rfl, _, fun _ => [.str vC.az, sl 2 TParam.cells vC.av, sl 2 TParam.cells vC.aM, sl 1 cS vC.ay, .bool vC.eN, sl 5 aL.cells vC.ax], rfl, ar rfl, (.d (.d ⟨rfl, ⟨rfl, _, rfl, ⟨.int .i64 (rY l7 vC.az 0), tD l7 vC.az, rC (ti := wk.get 9) (c := PV.str) (d := PV.int .i64) oY l7 vC.az 0, (.d (sV h (fun jd h => ?_) (fun jd h => ?_)))⟩⟩⟩))⟩⟩))
 refine .t (.t (.t (.t (.d ?_))))
 obtain rfl := si h
 replace h := NS
 exact eB h
 refine ⟨rfl, _, rfl, (.f (bk h fun tW yB h => (bJ (GC yB) (.f (.f (hB h (fun jO h => ?_) (fun jO h => ?_)))))))⟩
 refine .d ?_
 obtain rfl := si h
 replace h := NS
 exact eB h
 exact ⟨rfl, ⟨rfl, _, rfl, ⟨(fX l7 vC.az y8).length, row (mc (PV.str) (PV.int .i64)) (fX l7 vC.az y8), uS (ti := wk.get 9) (c := PV.str) (d := PV.int .i64) oY l7 vC.az y8, (lg (Vf _ _ _ h rfl) (tk [0, 1] ⟨.p, .m, .l, .i, .i, ⟨⟩⟩ ⟨(bn rfl), nw, ⟨⟩⟩))⟩⟩⟩
 exact ct ⟨_, si h, rfl, rfl⟩ (tk [0, 1] ⟨.p, .m, ⟨⟩⟩ ⟨(bn rfl), nw, ⟨⟩⟩)
 rintro _ _ ⟨l3, rfl, rfl, rfl⟩
 replace h := NS
 refine .d (.d ⟨rfl, ⟨rfl, _, rfl, (bk h fun we oD h => ⟨aK oD, _, (aD oD).trans (aw.aA we), ⟨rfl, _, fun _ => [.str we.az, .str we.dp, sl 8 au.cells we.aH, sl 5 aj.cells we.aE], rfl, ar rfl, (.d ⟨rfl, ⟨rfl, _, rfl, (nq h (fun kS h => ?_) (fun kS h => ?_))⟩⟩)⟩⟩)⟩⟩)
 exact .t (.t (.t (.t (.t (.t (.t (.t (.t (.t (.t (.t (.d (eB h)))))))))))))
 refine ⟨rfl, (.f ⟨rfl, _, rfl, (.f (.f (.f (sE h (fun oT h => ?_) (fun oT h => ?_)))))⟩)⟩
 exact .t (.t (.t (.t (.t (.t (.t (.d (eB h))))))))
 refine ⟨rfl, (.f ⟨rfl, _, rfl, (.f (bk h fun Qu EC h => ⟨aK EC, _, (aD EC).trans (au.aA Qu), (.f (.f (.f (.f (nq h (fun qg h => ?_) (fun qg h => ?_))))))⟩))⟩)⟩
 exact agP
 refine .d ⟨row (mc (PV.str) (PV.bool)) ([] : List (aU × Bool)), ?_⟩
 obtain ⟨Sk, adg, Fy⟩ := bd h
 replace h := adg
 refine .cut (fun σ η => .inl () = Sk ∧ σ = [] ∧ η = []) ?_ ?_
 refine .d ⟨rfl, ⟨rfl, _, rfl, ?_⟩⟩
 refine le (da.partial_correctness a0 l3 (motive := fun qh Gg Sy => Sk = Sy → aB _ _ [(1, .aG 0 0 0 0), (3, .lA 1), (9, .lA 2), (79, sl 4 aw.cells a0.aJ), (80, .int .i64 (a0.aJ.length : Int)), (81, .int .i64 Gg)] [.row 0 2 1 33 (fun _ => a0.lit), .row 0 2 l3.length 112 (row (mc (PV.str) (PV.int .i64)) l3), .row 0 2 qh.length 114 (row (mc (PV.str) (PV.bool)) qh)]) ?_ ([] : List (aU × Bool)) 0 Sk h rfl) (tk [0, 1, 3] ⟨.p, .m, .m, .l, .i, .i, ⟨⟩⟩ ⟨(bn rfl), nw, nw, ⟨⟩⟩)
 intro P3 UG qh Gg Sy h N6
 subst N6
 refine aB.round (.d (.d (sD h (fun A3 h => ?_) (fun A3 h => ?_))))
 obtain ⟨Uq, Ur, Bm⟩ := bd h
 replace h := Ur
 refine .cut (fun σ η => ∃ CL, .inl CL = Uq ∧ σ = [(1, .aG 0 0 0 0), (3, .lA 1), (9, .lA 2), (79, sl 4 aw.cells a0.aJ), (80, .int .i64 (a0.aJ.length : Int)), (81, .int .i64 Gg)] ∧ η = [.row 0 2 1 33 (fun _ => a0.lit), .row 0 2 l3.length 112 (row (mc (PV.str) (PV.int .i64)) l3), .row 0 2 CL.length 114 (row (mc (PV.str) (PV.bool)) CL)]) ?_ ?_
 refine .d (bk h fun tu C6 h => ⟨aK C6, _, (aD C6).trans (aw.aA tu), ⟨rfl, _, fun _ => [.str tu.az, .str tu.dp, sl 8 au.cells tu.aH, sl 5 aj.cells tu.aE], rfl, ar rfl, (.d (.d ⟨rfl, ⟨rfl, _, rfl, ⟨.bool (rY qh tu.az false), tD qh tu.az, rC (ti := wk.get 9) (c := PV.str) (d := PV.bool) oY qh tu.az false, (sV h (fun yx h => ?_) (fun yx h => ?_))⟩⟩⟩))⟩⟩)
 refine .d ?_
 obtain rfl := si h
 exact agI
 refine .d ⟨rfl, ⟨rfl, _, rfl, ⟨(fX qh tu.az true).length, row (mc (PV.str) (PV.bool)) (fX qh tu.az true), uS (ti := wk.get 9) (c := PV.str) (d := PV.bool) oY qh tu.az true, (.d ⟨row (mc (PV.str) (PV.bool)) ([] : List (aU × Bool)), ?_⟩)⟩⟩⟩
 obtain ⟨Gd, Ip, Au⟩ := bd h
 replace h := Ip
 refine .cut (fun σ η => .inl () = Gd ∧ σ = [(1, .aG 0 0 0 0), (3, .lA 1), (9, .lA 2), (11, .aG 3 0 0 0), (79, sl 4 aw.cells a0.aJ), (80, .int .i64 (a0.aJ.length : Int)), (81, .int .i64 Gg)] ∧ η = [.row 0 2 1 33 (fun _ => a0.lit), .row 0 2 l3.length 112 (row (mc (PV.str) (PV.int .i64)) l3), .row 0 2 (fX qh tu.az true).length 114 (row (mc (PV.str) (PV.bool)) (fX qh tu.az true)), .row 0 4 1 68 (fun _ => tu.lit)]) ?_ ?_
 refine .d ⟨rfl, ⟨rfl, _, rfl, ?_⟩⟩
 refine le (cw.partial_correctness tu (motive := fun vy Xz o62 => Gd = o62 → aB _ _ [(1, .aG 0 0 0 0), (3, .lA 1), (9, .lA 2), (11, .aG 3 0 0 0), (12, .lA 4), (79, sl 4 aw.cells a0.aJ), (80, .int .i64 (a0.aJ.length : Int)), (81, .int .i64 Gg), (94, sl 8 au.cells tu.aH), (95, .int .i64 (tu.aH.length : Int)), (96, .int .i64 Xz)] [.row 0 2 1 33 (fun _ => a0.lit), .row 0 2 l3.length 112 (row (mc (PV.str) (PV.int .i64)) l3), .row 0 2 (fX qh tu.az true).length 114 (row (mc (PV.str) (PV.bool)) (fX qh tu.az true)), .row 0 4 1 68 (fun _ => tu.lit), .row 0 2 vy.length 114 (row (mc (PV.str) (PV.bool)) vy)]) ?_ ([] : List (aU × Bool)) 0 Gd h rfl) (tk [0, 1, 2, 3, 4] ⟨.p, .m, .m, .p, .m, .l, .i, .i, .l, .i, .i, ⟨⟩⟩ ⟨(bn rfl), nw, nw, (bn rfl), nw, ⟨⟩⟩)
 intro zq adh vy Xz o62 h adi
 subst adi
 refine aB.round (.d (.d (sD h (fun Bg h => ?_) (fun Bg h => ?_))))
 refine .d (.d (bk h fun Di ZV h => ⟨aK ZV, _, (aD ZV).trans (au.aA Di), ⟨rfl, _, fun _ => [.str Di.az, .str Di.jv, .bool Di.ed, .int .i64 Di.bc.aF, .int .i64 Di.bc.aP, .str Di.bc.aQ, .int .i64 Di.bc.aO, sl 8 ae.cells Di.bc.af], rfl, ar rfl, (.d (.d ⟨rfl, ⟨rfl, _, rfl, ⟨.bool (rY vy Di.az false), tD vy Di.az, rC (ti := wk.get 9) (c := PV.str) (d := PV.bool) oY vy Di.az false, (sV h (fun Bo h => ?_) (fun Bo h => ?_))⟩⟩⟩))⟩⟩))
 refine .t (.t (.t (.t (.t (.t (.t (.t (.t (.t (.t (.t (.t (.t (.t ?_))))))))))))))
 refine .t (.d ?_)
 obtain rfl := si h
 replace h := Au
 obtain rfl := si h
 exact agI
 refine ⟨rfl, (.f ⟨rfl, _, rfl, (.f (bk h fun v53 Ff h => (bJ (nP Ff) (.f (.f (hB h (fun OC h => ?_) (fun OC h => ?_)))))))⟩)⟩
 refine .t (.t (.t (.t (.t (.t (.t (.t (.t (.t (.t (.d ?_)))))))))))
 obtain rfl := si h
 replace h := Au
 obtain rfl := si h
 exact agI
 refine ⟨rfl, (.f ⟨rfl, _, rfl, (.f (bk h fun qX UB h => (bJ (xm UB) (.f (.f (hB h (fun EW h => ?_) (fun EW h => ?_)))))))⟩)⟩
 refine .t (.t (.t (.t (.t (.t (.d ?_))))))
 obtain rfl := si h
 replace h := Au
 obtain rfl := si h
 exact agI
 refine ⟨rfl, (.f ⟨rfl, (.f ⟨rfl, _, rfl, (.f (bk h fun v59 VF h => (bJ (vw VF) (.f (.f (hB h (fun U9 h => ?_) (fun U9 h => ?_)))))))⟩)⟩)⟩
 refine .d ?_
 obtain rfl := si h
 replace h := Au
 obtain rfl := si h
 exact agI
 exact ⟨rfl, ⟨rfl, _, rfl, ⟨(fX vy Di.az true).length, row (mc (PV.str) (PV.bool)) (fX vy Di.az true), uS (ti := wk.get 9) (c := PV.str) (d := PV.bool) oY vy Di.az true, (lg (adh _ _ _ h rfl) (tk [0, 1, 2, 3, 4] ⟨.p, .m, .m, .p, .m, .l, .i, .i, .l, .i, .i, ⟨⟩⟩ ⟨(bn rfl), nw, nw, (bn rfl), nw, ⟨⟩⟩))⟩⟩⟩
 exact ct ⟨si h, rfl, rfl⟩ (tk [0, 1, 2, 3] ⟨.p, .m, .m, .p, .l, .i, .i, ⟨⟩⟩ ⟨(bn rfl), nw, nw, (bn rfl), ⟨⟩⟩)
 rintro _ _ ⟨rfl, rfl, rfl⟩
 replace h := Au
 refine .d ⟨rfl, ⟨rfl, _, rfl, ?_⟩⟩
 refine le (c8.partial_correctness a0 l3 qh tu (motive := fun XA o83 => Uq = o83 → aB _ _ [(1, .aG 0 0 0 0), (3, .lA 1), (9, .lA 2), (79, sl 4 aw.cells a0.aJ), (80, .int .i64 (a0.aJ.length : Int)), (81, .int .i64 Gg), (128, sl 5 aj.cells tu.aE), (129, .int .i64 (tu.aE.length : Int)), (130, .int .i64 XA)] [.row 0 2 1 33 (fun _ => a0.lit), .row 0 2 l3.length 112 (row (mc (PV.str) (PV.int .i64)) l3), .row 0 2 (fX qh tu.az true).length 114 (row (mc (PV.str) (PV.bool)) (fX qh tu.az true))]) ?_ 0 Uq h rfl) (tk [0, 1, 2] ⟨.p, .m, .m, .l, .i, .i, .l, .i, .i, ⟨⟩⟩ ⟨(bn rfl), nw, nw, ⟨⟩⟩)
 intro F66 adj XA o83 h adk
 subst adk
 refine aB.round (.d (.d (sD h (fun N7 h => ?_) (fun N7 h => ?_))))
 refine .d (.d (bk h fun Dh OE h => ⟨aK OE, _, (aD OE).trans (aj.aA Dh), ⟨rfl, _, fun _ => [.str Dh.az, .str Dh.jv, .str Dh.nB, .bool Dh.ed, .bool Dh.mL], rfl, ar rfl, (.d ⟨rfl, ⟨rfl, _, rfl, (bk h fun r8 ZW h => ⟨fM ZW, r8, fN ZW, ⟨rfl, ⟨rfl, _, rfl, (bk h fun SR ZX h => ⟨fM ZX, SR, fN ZX, ⟨.int .i64 (rY l3 SR 0), tD l3 SR, rC (ti := wk.get 9) (c := PV.str) (d := PV.int .i64) oY l3 SR 0, ?_⟩⟩)⟩⟩⟩)⟩⟩)⟩⟩))
 refine .d (hB h (fun Ni h => ?_) (fun Ni h => ?_))
 refine .t (.t (.t (.t (.t (.t (.t (.t (.t (.t (.t (.t (.t (.t (.t ?_))))))))))))))
 refine .t (.d ?_)
 obtain rfl := si h
 exact agI
 refine ⟨rfl, (.f ⟨rfl, _, rfl, (.f (.f (bk h fun x75 ZY h => ⟨aK ZY, _, (aD ZY).trans (aC.aA x75), (.f (.f (bk h fun ig adl h => (bJ (zw adl) (.f (sV h (fun Wd h => ?_) (fun Wd h => ?_)))))))⟩)))⟩)⟩
 refine .t (.t (.t (.t (.t (.t (.t (.t (.t (.d ?_)))))))))
 obtain rfl := si h
 exact agI
 refine ⟨rfl, (.f ⟨rfl, _, rfl, (.f (.f (bk h fun Rf OF h => ⟨aK OF, _, (aD OF).trans (aC.aA Rf), (.f (.f (.f (.f (.f (sD h (fun Vq h => ?_) (fun Vq h => ?_)))))))⟩)))⟩)⟩
 refine .d ?_
 obtain rfl := si h
 exact agI
 exact lg (adj _ _ h rfl) (tk [0, 1, 2] ⟨.p, .m, .m, .l, .i, .i, .l, .i, .i, ⟨⟩⟩ ⟨(bn rfl), nw, nw, ⟨⟩⟩)
 exact ct ⟨_, si h, rfl, rfl⟩ (tk [0, 1, 2] ⟨.p, .m, .m, .l, .i, .i, ⟨⟩⟩ ⟨(bn rfl), nw, nw, ⟨⟩⟩)
 rintro _ _ ⟨CL, rfl, rfl, rfl⟩
 replace h := Bm
 exact lg (UG _ _ _ h rfl) (tk [0, 1, 2] ⟨.p, .m, .m, .l, .i, .i, ⟨⟩⟩ ⟨(bn rfl), nw, nw, ⟨⟩⟩)
 exact agQ
 rintro _ _ ⟨rfl, rfl, rfl⟩
 replace h := Fy
 exact agP
set_option synthInstance.maxHeartbeats 400000
set_option synthInstance.maxSize 4000
set_option maxRecDepth 100000
set_option maxHeartbeats 2000000
def ji (a0 : aU) (a1 : Int) (a2 : Int) (y5 : Int) : Option (Int) :=
 (if y5 < (a0.length : Int) then
 oF a0 y5 >>= fun c9 =>
 (if (c9.toNat : Int) = a2 then
 some y5
 else
 (if y5 < (ai (a1 + 12)) then
 ji a0 a1 a2 (ai (y5 + 1))
 else
 some y5))
 else
 some y5)
partial_fixpoint
def cK (a0 : aU) (a1 : Int) (a2 : Int) : Option (Int × Int) :=
 (
 ji a0 a1 a2 a1
 : Option (Int)) >>= fun y1 =>
 (if y1 ≥ (a0.length : Int) then
 some (0, (-1))
 else
 oF a0 y1 >>= fun XP =>
 (if (XP.toNat : Int) = a2 then
 oG a0 a1 y1 >>= fun V3 =>
 Xr V3 >>= fun (v21, oO) =>
 (if oO = true then
 some (v21, ai (y1 + 1))
 else
 oG a0 a1 y1 >>= fun Vg =>
 (if Vg = ([49, 48, 48, 48, 48, 48, 48, 48, 48, 49] : aU) then
 some (1000000001, ai (y1 + 1))
 else
 some (0, (-1))))
 else
 some (0, (-1))))
theorem qF {a0 : aU} {a1 : Int} {a2 : Int} {r : Int × Int} (h : cK a0 a1 a2 = some r) : ACall Tryz.prog 165 [.str a0, .int .i64 a1, .int .u8 a2] [] (fun res h => res = .fu [.int .i64 r.1, .int .i64 r.2] ∧ h = []) := by
 refine dx Tryz.func165 ?_
 unfold cK at h
 refine .d (.d ?_)
 obtain ⟨o2, mD, ft⟩ := bd h
 replace h := mD
 refine .cut (fun σ η => ∃ y1, y1 = o2 ∧ σ = [(0, .str a0), (1, .int .i64 a1), (2, .int .u8 a2), (8, .int .i64 y1)] ∧ η = []) ?_ ?_
 refine le (ji.partial_correctness a0 a1 a2 (motive := fun y5 Qr => o2 = Qr → aB _ _ [(0, .str a0), (1, .int .i64 a1), (2, .int .u8 a2), (8, .int .i64 y5)] []) ?_ a1 o2 h rfl) (tk [] ⟨.s, .i, .i, .i, ⟨⟩⟩ ⟨⟩)
 intro F7 zo y5 Qr h TH
 subst TH
 refine aB.round (.d (.d (sD h (fun mI h => ?_) (fun mI h => ?_))))
 refine .t (.t (bk h fun c9 iN h => ⟨jQ iN, c9, jR iN, (.t (.t (.t (sN h (fun jt h => ?_) (fun jt h => ?_)))))⟩))
 refine .t (.t (.t (.t (sD h (fun me h => ?_) (fun me h => ?_)))))
 exact lg (zo _ _ h rfl) (tk [] ⟨.s, .i, .i, .i, ⟨⟩⟩ ⟨⟩)
 exact ct ⟨_, si h, rfl, rfl⟩ (tk [] ⟨.s, .i, .i, .i, ⟨⟩⟩ ⟨⟩)
 exact .f (.f (.f (.f (.f (ct ⟨_, si h, rfl, rfl⟩ (tk [] ⟨.s, .i, .i, .i, ⟨⟩⟩ ⟨⟩))))))
 exact .f (.f (.f (.f (.f (.f (.f (.f (.f (.f (.f (ct ⟨_, si h, rfl, rfl⟩ (tk [] ⟨.s, .i, .i, .i, ⟨⟩⟩ ⟨⟩))))))))))))
 rintro _ _ ⟨y1, rfl, rfl, rfl⟩
 replace h := ft
 refine .d (.d (sD h (fun eE h => ?_) (fun eE h => ?_)))
 refine .t (.t (.t (.t (.t (.t (.d ?_))))))
 exact agB
 refine .f (.f (bk h fun XP oS h => ⟨jQ oS, XP, jR oS, (.f (.f (.f (sN h (fun lG h => ?_) (fun lG h => ?_)))))⟩))
 refine .d ?_
 exact agB
 refine .d (bk h fun V3 wa h => ⟨u0 wa, V3, u6 wa, ?_⟩)
 obtain ⟨⟨v21, oO⟩, yp, h⟩ := bd h
 refine bJ (ZA yp) (.d (.d (hB h (fun oU h => ?_) (fun oU h => ?_))))
 refine .t (.t (.t (bk h fun Vg rA h => ⟨u0 rA, Vg, u6 rA, (.t (.t (nq h (fun n7 h => ?_) (fun n7 h => ?_))))⟩)))
 refine .d ?_
 exact agB
 refine .d (.d (.kt oU (.d ?_)))
 exact agB
 refine .f (.f (.f (.f (.f (.f (.d (.d (.kf oU (.d ?_)))))))))
 exact agB
mutual
def dC (a0 : aU) (a1 : Int) (a2 : Int) : Option (ah × Int) :=
 (if a0.length + 1 = a0.length then
 dC default default default
 else
 (if a1 ≥ (ai ((a0.length : Int) - 1)) then
 some ((ah.mk 0 0 [] 0 []), (-1))
 else
 (if a2 > 200 then
 some ((ah.mk 0 0 [] 0 []), (-1))
 else
 oG a0 a1 (ai (a1 + 2)) >>= fun s3 =>
 (if s3 = ([78, 59] : aU) then
 some ((ah.mk 0 0 [] 0 []), ai (a1 + 2))
 else
 ((
 (
 (if s3 = ([98, 58] : aU) then
 some (s3 == ([98, 58] : aU))
 else
 some (s3 == ([105, 58] : aU)))
 : Option (Bool)) >>= fun vG =>
 (if vG = true then
 cK a0 (ai (a1 + 2)) 59 >>= fun (rX, ly) =>
 (if s3 = ([98, 58] : aU) then
 some (.inr ((ah.mk 1 rX [] 0 []), ly))
 else
 some (.inr ((ah.mk 2 rX [] 0 []), ly)))
 else
 (if s3 = ([115, 58] : aU) then
 cK a0 (ai (a1 + 2)) 58 >>= fun (oO, kK) =>
 (if kK < 0 then
 some (.inr ((ah.mk 0 0 [] 0 []), (-1)))
 else
 (if oO < 0 then
 some (.inr ((ah.mk 0 0 [] 0 []), (-1)))
 else
 (if oO ≥ (ai ((a0.length : Int) - kK)) then
 some (.inr ((ah.mk 0 0 [] 0 []), (-1)))
 else
 oF a0 (ai (kK + oO)) >>= fun c28 =>
 (if (c28.toNat : Int) = 59 then
 oG a0 kK (ai (kK + oO)) >>= fun QP =>
 some (.inr ((ah.mk 3 0 QP 0 []), ai ((ai (kK + oO)) + 1)))
 else
 some (.inr ((ah.mk 0 0 [] 0 []), (-1)))))))
 else
 (if s3 = ([97, 58] : aU) then
 cK a0 (ai (a1 + 2)) 58 >>= fun (yJ, oz) =>
 some (.inl (yJ, oz))
 else
 some (.inl (0, (-1))))))
 : Option ((Int × Int) ⊕ (ah × Int))) >>= fun o8 => match o8 with
 | .inr r => some r
 | .inl (y6, y7) =>
 (if y7 < 0 then
 some ((ah.mk 0 0 [] 0 []), (-1))
 else
 (if y6 < 0 then
 some ((ah.mk 0 0 [] 0 []), (-1))
 else
 (if y6 > 200 then
 some ((ah.mk 0 0 [] 0 []), (-1))
 else
 cK a0 y7 123 >>= fun (v40, pn) =>
 ((
 cM a0 a2 v40 y6 pn ([] : List ae) 0
 : Option ((Int × (List ae)) ⊕ (ah × Int))) >>= fun ZZ => match ZZ with
 | .inr r => some r
 | .inl (SS, KC) =>
 (if SS < 0 then
 some ((ah.mk 4 0 [] v40 KC), (-1))
 else
 (if SS ≥ (a0.length : Int) then
 some ((ah.mk 4 0 [] v40 KC), (-1))
 else
 oF a0 SS >>= fun c78 =>
 (if (c78.toNat : Int) = 125 then
 some ((ah.mk 4 0 [] v40 KC), ai (SS + 1))
 else
 some ((ah.mk 4 0 [] v40 KC), (-1)))))
 ))))
 )))))
partial_fixpoint
def cM (a0 : aU) (a2 : Int) (v40 : Int) (y6 : Int) (sQ : Int) (oB : List ae) (sI : Int) : Option ((Int × (List ae)) ⊕ (ah × Int)) :=
 (if sI < y6 then
 (if sQ ≥ 0 then
 dC a0 sQ (ai (a2 + 1)) >>= fun (qX, rF) =>
 (if rF < 0 then
 some (.inr ((ah.mk 4 0 [] v40 oB), (-1)))
 else
 wh qX.aF 2 3 >>= fun Bk =>
 (if Bk = true then
 dC a0 rF (ai (a2 + 1)) >>= fun (mF, vI) =>
 im 96 oB ([(ae.mk (bH.mk (qX.aF == 3) qX.aP qX.aQ) mF)] : List ae) >>= fun H5 =>
 cM a0 a2 v40 y6 vI H5 (ai (sI + 1))
 else
 some (.inr ((ah.mk 4 0 [] v40 oB), (-1)))))
 else
 some (.inl (sQ, oB)))
 else
 some (.inl (sQ, oB)))
partial_fixpoint
end
def FA (a0 : aU) (a1 : Int) (a2 : Int) (r : ah × Int) : Prop := ACall Tryz.prog 123 [.str a0, .int .i64 a1, .int .i64 a2] [] (fun res h => res = .fu [.agg r.1.lit, .int .i64 r.2] ∧ h = [])
inductive fK : aU → Int → Int → Int → Int → (List ae) → Int → ((Int × (List ae)) ⊕ (ah × Int)) → Prop
 | mk (Jp : aU → Int → Int → Option (ah × Int)) (Z0 : ∀ a0 a1 a2 r, Jp a0 a1 a2 = some r → FA a0 a1 a2 r) (ic : aU → Int → Int → Int → Int → (List ae) → Int → Option ((Int × (List ae)) ⊕ (ah × Int))) (xH : ∀ a0 a2 v40 y6 sQ oB sI o, ic a0 a2 v40 y6 sQ oB sI = some o → fK a0 a2 v40 y6 sQ oB sI o) (a0 : aU) (a2 : Int) (v40 : Int) (y6 : Int) (sQ : Int) (oB : List ae) (sI : Int) (o : (Int × (List ae)) ⊕ (ah × Int)) (h : (
 (if sI < y6 then
 (if sQ ≥ 0 then
 Jp a0 sQ (ai (a2 + 1)) >>= fun (qX, rF) =>
 (if rF < 0 then
 some (.inr ((ah.mk 4 0 [] v40 oB), (-1)))
 else
 wh qX.aF 2 3 >>= fun Bk =>
 (if Bk = true then
 Jp a0 rF (ai (a2 + 1)) >>= fun (mF, vI) =>
 im 96 oB ([(ae.mk (bH.mk (qX.aF == 3) qX.aP qX.aQ) mF)] : List ae) >>= fun H5 =>
 ic a0 a2 v40 y6 vI H5 (ai (sI + 1))
 else
 some (.inr ((ah.mk 4 0 [] v40 oB), (-1)))))
 else
 some (.inl (sQ, oB)))
 else
 some (.inl (sQ, oB)))
 ) = some o) : fK a0 a2 v40 y6 sQ oB sI o
theorem wD {motive : aU → Int → Int → Int → Int → (List ae) → Int → ((Int × (List ae)) ⊕ (ah × Int)) → Prop} (step : ∀ (Jp : aU → Int → Int → Option (ah × Int)) (Z0 : ∀ a0 a1 a2 r, Jp a0 a1 a2 = some r → FA a0 a1 a2 r) (ic : aU → Int → Int → Int → Int → (List ae) → Int → Option ((Int × (List ae)) ⊕ (ah × Int))) (xH : ∀ a0 a2 v40 y6 sQ oB sI o, ic a0 a2 v40 y6 sQ oB sI = some o → fK a0 a2 v40 y6 sQ oB sI o) (a0 : aU) (a2 : Int) (v40 : Int) (y6 : Int) (sQ : Int) (oB : List ae) (sI : Int) (o : (Int × (List ae)) ⊕ (ah × Int)) (h : (
 (if sI < y6 then
 (if sQ ≥ 0 then
 Jp a0 sQ (ai (a2 + 1)) >>= fun (qX, rF) =>
 (if rF < 0 then
 some (.inr ((ah.mk 4 0 [] v40 oB), (-1)))
 else
 wh qX.aF 2 3 >>= fun Bk =>
 (if Bk = true then
 Jp a0 rF (ai (a2 + 1)) >>= fun (mF, vI) =>
 im 96 oB ([(ae.mk (bH.mk (qX.aF == 3) qX.aP qX.aQ) mF)] : List ae) >>= fun H5 =>
 ic a0 a2 v40 y6 vI H5 (ai (sI + 1))
 else
 some (.inr ((ah.mk 4 0 [] v40 oB), (-1)))))
 else
 some (.inl (sQ, oB)))
 else
 some (.inl (sQ, oB)))
 ) = some o) (ih : ∀ a0 a2 v40 y6 sQ oB sI o, ic a0 a2 v40 y6 sQ oB sI = some o → motive a0 a2 v40 y6 sQ oB sI o), motive a0 a2 v40 y6 sQ oB sI o) : ∀ a0 a2 v40 y6 sQ oB sI o, fK a0 a2 v40 y6 sQ oB sI o → motive a0 a2 v40 y6 sQ oB sI o :=
 fun a0 a2 v40 y6 sQ oB sI o h => fK.rec (motive := fun a0 a2 v40 y6 sQ oB sI o _ => motive a0 a2 v40 y6 sQ oB sI o) step h
theorem B7 : (∀ a0 a1 a2 r, dC a0 a1 a2 = some r → FA a0 a1 a2 r) ∧ (∀ a0 a2 v40 y6 sQ oB sI o, cM a0 a2 v40 y6 sQ oB sI = some o → fK a0 a2 v40 y6 sQ oB sI o) := by
 refine dC.mutual_partial_correctness FA fK ?_ ?_
 intro _ _ adm Vh a0 a1 a2 r h
 refine dx Tryz.func123 ?_
 rw [if_neg ahw] at h
 refine .d (.d (.d (sD h (fun eD h => ?_) (fun eD h => ?_))))
 refine .t (.t (.t (.d ⟨rfl, _, fun _ => [.int .i64 0, .int .i64 0, .str [], .int .i64 0, .aq], rfl, ar rfl, ?_⟩)))
 exact agt
 refine .f (.f (sD h (fun jo h => ?_) (fun jo h => ?_)))
 refine .d ⟨rfl, _, fun _ => [.int .i64 0, .int .i64 0, .str [], .int .i64 0, .aq], rfl, ar rfl, ?_⟩
 exact agt
 refine .d (bk h fun s3 Sv h => ⟨u0 Sv, s3, u6 Sv, (.d (.d (sE h (fun lY h => ?_) (fun lY h => ?_))))⟩)
 refine .d ⟨rfl, _, fun _ => [.int .i64 0, .int .i64 0, .str [], .int .i64 0, .aq], rfl, ar rfl, ?_⟩
 exact agt
 refine .d (.d ?_)
 obtain ⟨o8, ho9, Db⟩ := bd h
 replace h := ho9
 refine .cut (fun σ η => ∃ y6, ∃ y7, .inl (y6, y7) = o8 ∧ σ = [(0, .str a0), (2, .int .i64 a2), (6, .aG 0 0 0 0), (9, .int .i64 y6), (10, .int .i64 y7)] ∧ η = [.row 0 5 1 97 (fun _ => [.int .i64 0, .int .i64 0, .str [], .int .i64 0, .aq])]) ?_ ?_
 refine .d ?_
 obtain ⟨HY, EV, jS⟩ := bd h
 replace h := EV
 refine .cut (fun σ η => ∃ vG, vG = HY ∧ σ = [(0, .str a0), (1, .int .i64 a1), (2, .int .i64 a2), (6, .aG 0 0 0 0), (8, .str s3), (9, .int .i64 0), (10, .int .i64 (-1)), (36, .str s3), (37, .bool vG)] ∧ η = [.row 0 5 1 97 (fun _ => [.int .i64 0, .int .i64 0, .str [], .int .i64 0, .aq])]) ?_ ?_
 refine .d (sE h (fun eE h => ?_) (fun eE h => ?_))
 exact ct ⟨_, si h, rfl, rfl⟩ (tk [0] ⟨.s, .i, .i, .p, .s, .i, .i, .s, .b, ⟨⟩⟩ ⟨(nb rfl ⟨.i, .i, .s, .i, .aq, ⟨⟩⟩), ⟨⟩⟩)
 exact ct ⟨_, si h, rfl, rfl⟩ (tk [0] ⟨.s, .i, .i, .p, .s, .i, .i, .s, .b, ⟨⟩⟩ ⟨(nb rfl ⟨.i, .i, .s, .i, .aq, ⟨⟩⟩), ⟨⟩⟩)
 rintro _ _ ⟨vG, rfl, rfl, rfl⟩
 replace h := jS
 refine sV h (fun kz h => ?_) (fun kz h => ?_)
 refine .d ?_
 obtain ⟨⟨rX, ly⟩, Ey, h⟩ := bd h
 refine bJ (qF Ey) (.d (.d (sE h (fun pH h => ?_) (fun pH h => ?_))))
 refine .d ⟨rfl, _, fun _ => [.int .i64 1, .int .i64 rX, .str [], .int .i64 0, .aq], rfl, ar rfl, ?_⟩
 exact agJ
 refine .d (bJ (Bd rX) ⟨rfl, _, fun _ => [.int .i64 2, .int .i64 rX, .str [], .int .i64 0, .aq], rfl, ar rfl, ?_⟩)
 exact agJ
 refine .d (sE h (fun pE h => ?_) (fun pE h => ?_))
 refine .d ?_
 obtain ⟨⟨oO, kK⟩, tO, h⟩ := bd h
 refine bJ (qF tO) (.d (.d (sD h (fun ny h => ?_) (fun ny h => ?_))))
 refine .t (.t (.t (.t (.t (.t (.t (.t (.t (.t (.t (.t (.t (.t (.t ?_))))))))))))))
 refine .t (.t (.d ⟨rfl, _, fun _ => [.int .i64 0, .int .i64 0, .str [], .int .i64 0, .aq], rfl, ar rfl, ?_⟩))
 exact agJ
 refine .f (.f (sD h (fun qg h => ?_) (fun qg h => ?_)))
 refine .t (.t (.t (.t (.t (.t (.t (.t (.t (.t (.t (.t (.t (.t (.d ?_))))))))))))))
 refine ⟨rfl, _, fun _ => [.int .i64 0, .int .i64 0, .str [], .int .i64 0, .aq], rfl, ar rfl, ?_⟩
 exact agJ
 refine .f (.f (.f (.f (.f (.f (sD h (fun n7 h => ?_) (fun n7 h => ?_)))))))
 refine .t (.t (.t (.t (.t (.t (.t (.d ⟨rfl, _, fun _ => [.int .i64 0, .int .i64 0, .str [], .int .i64 0, .aq], rfl, ar rfl, ?_⟩)))))))
 exact agJ
 refine .f (.f (.f (.f (bk h fun c28 Gq h => ⟨jQ Gq, c28, jR Gq, (.f (.f (sN h (fun qU h => ?_) (fun qU h => ?_))))⟩))))
 refine .d ⟨rfl, _, fun _ => [.int .i64 0, .int .i64 0, .str [], .int .i64 0, .aq], rfl, ar rfl, ?_⟩
 exact agJ
 refine .d (bk h fun QP NZ h => ⟨u0 NZ, QP, u6 NZ, (bJ (Al QP) ⟨rfl, _, fun _ => [.int .i64 3, .int .i64 0, .str QP, .int .i64 0, .aq], rfl, ar rfl, ?_⟩)⟩)
 exact agJ
 refine .d (sE h (fun yw h => ?_) (fun yw h => ?_))
 obtain ⟨⟨yJ, oz⟩, A4, h⟩ := bd h
 exact bJ (qF A4) (ct ⟨_, _, si h, rfl, rfl⟩ (tk [0] ⟨.s, .i, .p, .i, .i, ⟨⟩⟩ ⟨(nb rfl ⟨.i, .i, .s, .i, .aq, ⟨⟩⟩), ⟨⟩⟩))
 exact ct ⟨_, _, si h, rfl, rfl⟩ (tk [0] ⟨.s, .i, .p, .i, .i, ⟨⟩⟩ ⟨(nb rfl ⟨.i, .i, .s, .i, .aq, ⟨⟩⟩), ⟨⟩⟩)
 rintro _ _ ⟨y6, y7, rfl, rfl, rfl⟩
 replace h := Db
 refine .d (.d (sD h (fun wc h => ?_) (fun wc h => ?_)))
 refine .t (.t (.t (.t (.t (.t (.d ⟨rfl, _, fun _ => [.int .i64 0, .int .i64 0, .str [], .int .i64 0, .aq], rfl, ar rfl, ?_⟩))))))
 exact agt
 refine .f (.f (sD h (fun tV h => ?_) (fun tV h => ?_)))
 refine .t (.t (.t (.d ⟨rfl, _, fun _ => [.int .i64 0, .int .i64 0, .str [], .int .i64 0, .aq], rfl, ar rfl, ?_⟩)))
 exact agt
 refine .f (.f (sD h (fun pK h => ?_) (fun pK h => ?_)))
 refine .d ⟨rfl, _, fun _ => [.int .i64 0, .int .i64 0, .str [], .int .i64 0, .aq], rfl, ar rfl, ?_⟩
 exact agt
 refine .d (bJ (yy) ⟨rfl, _, fun _ => [.int .i64 4, .int .i64 0, .str [], .int .i64 0, .aq], rfl, ar rfl, (.d ?_)⟩)
 obtain ⟨⟨v40, pn⟩, Ba, h⟩ := bd h
 refine bJ (qF Ba) ⟨rfl, ⟨rfl, _, fun _ => [.int .i64 4, .int .i64 0, .str [], .int .i64 v40, .aq], rfl, ar rfl, ?_⟩⟩
 obtain ⟨ZZ, adn, We⟩ := bd h
 replace h := adn
 refine .cut (fun σ η => ∃ SS, ∃ KC, .inl (SS, KC) = ZZ ∧ σ = [(0, .str a0), (6, .aG 0 0 0 0), (10, .int .i64 SS), (11, .aG 1 0 0 0)] ∧ η = [.row 0 5 1 97 (fun _ => [.int .i64 0, .int .i64 0, .str [], .int .i64 0, .aq]), .row 0 5 1 97 (fun _ => [.int .i64 4, .int .i64 0, .str [], .int .i64 v40, .own 2 0 0 KC.length]), .row 0 8 KC.length 197 (row ae.cells KC)]) ?_ ?_
 refine .d ?_
 have Vj := Vh _ _ _ _ _ _ _ _ h
 refine le (wD (motive := fun p70 ZC p72 YH sQ oB sI Xq => a0 = p70 → a2 = ZC → v40 = p72 → y6 = YH → ZZ = Xq → aB _ _ [(0, .str a0), (2, .int .i64 a2), (6, .aG 0 0 0 0), (9, .int .i64 y6), (10, .int .i64 sQ), (11, .aG 1 0 0 0), (12, .int .i64 sI)] [.row 0 5 1 97 (fun _ => [.int .i64 0, .int .i64 0, .str [], .int .i64 0, .aq]), .row 0 5 1 97 (fun _ => [.int .i64 4, .int .i64 0, .str [], .int .i64 v40, .own 2 0 0 oB.length]), .row 0 8 oB.length 197 (row ae.cells oB)]) ?_ a0 a2 v40 y6 pn ([] : List ae) 0 ZZ Vj rfl rfl rfl rfl rfl) (tk [0, 1, 4] ⟨.s, .i, .p, .i, .i, .p, .i, ⟨⟩⟩ ⟨(nb rfl ⟨.i, .i, .s, .i, .aq, ⟨⟩⟩), (nb rfl ⟨.i, .i, .s, .i, .g, ⟨⟩⟩), gh, ⟨⟩⟩)
 intro _ Z1 _ _ p70 ZC p72 YH sQ oB sI Xq h ado  Wf Jn Wg IZ adp
 subst Wf
 subst Jn
 subst Wg
 subst IZ
 subst adp
 refine aB.round (.d (.d (sD h (fun Wc h => ?_) (fun Wc h => ?_))))
 refine .t (.t (sD h (fun OC h => ?_) (fun OC h => ?_)))
 refine .d (.d ⟨rfl, _, fun _ => [.int .i64 0, .int .i64 0, .str [], .int .i64 0, .aq], rfl, ar rfl, (.d ⟨rfl, _, fun _ => [.int .i64 0, .int .i64 0, .str [], .int .i64 0, .aq], rfl, ar rfl, (.d ?_)⟩)⟩)
 obtain ⟨⟨qX, rF⟩, N5, h⟩ := bd h
 refine bJ (Z1 _ _ _ _ N5) ⟨rfl, _, fun _ => [.int .i64 qX.aF, .int .i64 qX.aP, .str qX.aQ, .int .i64 qX.aO, sl 8 ae.cells qX.af], rfl, ar rfl, (.d (.d (sD h (fun Bj h => ?_) (fun Bj h => ?_))))⟩
 refine .t (.t (.t (.t (.t (.d ⟨rfl, _, rfl, ⟨rfl, _, fun _ => [.int .i64 4, .int .i64 0, .str [], .int .i64 v40, .own 2 0 0 oB.length], rfl, ar rfl, ?_⟩⟩)))))
 obtain rfl := si h
 replace h := We
 exact agu
 refine ⟨rfl, (.f ⟨rfl, _, rfl, (.f (bk h fun Bk Uu h => (bJ (qf Uu) (.f (.f (hB h (fun Nf h => ?_) (fun Nf h => ?_)))))))⟩)⟩
 refine .d ⟨rfl, _, rfl, ⟨rfl, _, fun _ => [.int .i64 4, .int .i64 0, .str [], .int .i64 v40, .own 2 0 0 oB.length], rfl, ar rfl, ?_⟩⟩
 obtain rfl := si h
 replace h := We
 exact agu
 refine .d ?_
 obtain ⟨⟨mF, vI⟩, E4, h⟩ := bd h
 refine bJ (Z1 _ _ _ _ E4) ⟨rfl, _, fun _ => [.int .i64 mF.aF, .int .i64 mF.aP, .str mF.aQ, .int .i64 mF.aO, sl 8 ae.cells mF.af], rfl, ar rfl, (.d ⟨rfl, ⟨rfl, _, rfl, ⟨rfl, ⟨rfl, _, rfl, ⟨rfl, ⟨rfl, _, rfl, ⟨rfl, _, fun _ => [.bool (qX.aF == 3), .int .i64 qX.aP, .str qX.aQ], rfl, ar rfl, ⟨rfl, ⟨rfl, _, rfl, ⟨rfl, _, rfl, ⟨rfl, _, rfl, ⟨row ae.cells ([(ae.mk (bH.mk (qX.aF == 3) qX.aP qX.aQ) mF)] : List ae), de ae.cells ([(ae.mk (bH.mk (qX.aF == 3) qX.aP qX.aQ) mF)] : List ae) rfl (wY (ae.aA _) ⟨.same _, .same _, .same _, .same _, .same _, .same _, .same _, .same _, trivial⟩ trivial), ?_⟩⟩⟩⟩⟩⟩⟩⟩⟩⟩⟩⟩)⟩
 exact bk h fun H5 Wh h => ⟨rfl, rfl, lI (l := ([(ae.mk (bH.mk (qX.aF == 3) qX.aP qX.aQ) mF)] : List ae)) aS, eL Wh, H5.length, row ae.cells H5, dq Wh, dB Wh aS (jr aS), ⟨rfl, ⟨rfl, _, fun _ => [.int .i64 4, .int .i64 0, .str [], .int .i64 v40, .own 2 (0 + 1) 0 H5.length], rfl, ar rfl, (lg (ado _ _ _ _ _ _ _ _ h rfl rfl rfl rfl rfl) (tk [0, 1, 2] ⟨.s, .i, .p, .i, .i, .p, .i, ⟨⟩⟩ ⟨(nb rfl ⟨.i, .i, .s, .i, .aq, ⟨⟩⟩), (nb rfl ⟨.i, .i, .s, .i, .o, ⟨⟩⟩), nw, ⟨⟩⟩))⟩⟩⟩
 exact ct ⟨_, _, si h, rfl, rfl⟩ (tk [0, 1, 2] ⟨.s, .p, .i, .p, ⟨⟩⟩ ⟨(nb rfl ⟨.i, .i, .s, .i, .aq, ⟨⟩⟩), (nb rfl ⟨.i, .i, .s, .i, .o, ⟨⟩⟩), nw, ⟨⟩⟩)
 exact .f (.f (.f (ct ⟨_, _, si h, rfl, rfl⟩ (tk [0, 1, 2] ⟨.s, .p, .i, .p, ⟨⟩⟩ ⟨(nb rfl ⟨.i, .i, .s, .i, .aq, ⟨⟩⟩), (nb rfl ⟨.i, .i, .s, .i, .o, ⟨⟩⟩), nw, ⟨⟩⟩))))
 rintro _ _ ⟨SS, KC, rfl, rfl, rfl⟩
 replace h := We
 refine .d (.d (sD h (fun Nn h => ?_) (fun Nn h => ?_)))
 refine .t (.t (.t (.t (.t (.t (.t (.t (.t (.t (.d ⟨rfl, _, rfl, ⟨rfl, _, fun _ => [.int .i64 4, .int .i64 0, .str [], .int .i64 v40, .own 2 0 0 KC.length], rfl, ar rfl, ?_⟩⟩))))))))))
 exact agu
 refine .f (.f (.f (.f (sD h (fun M9 h => ?_) (fun M9 h => ?_)))))
 refine .t (.t (.t (.t (.t (.d ⟨rfl, _, rfl, ⟨rfl, _, fun _ => [.int .i64 4, .int .i64 0, .str [], .int .i64 v40, .own 2 0 0 KC.length], rfl, ar rfl, ?_⟩⟩)))))
 exact agu
 refine .f (.f (bk h fun c78 Ln h => ⟨jQ Ln, c78, jR Ln, (.f (.f (sN h (fun adq h => ?_) (fun adq h => ?_))))⟩))
 refine .d ⟨rfl, _, rfl, ⟨rfl, _, fun _ => [.int .i64 4, .int .i64 0, .str [], .int .i64 v40, .own 2 0 0 KC.length], rfl, ar rfl, ?_⟩⟩
 exact agu
 refine .d ⟨rfl, _, rfl, ⟨rfl, _, fun _ => [.int .i64 4, .int .i64 0, .str [], .int .i64 v40, .own 2 0 0 KC.length], rfl, ar rfl, ?_⟩⟩
 exact agu
 intro F0 F1 CS CT a0 a2 v40 y6 sQ oB sI o h
 exact .mk F0 CS F1 CT a0 a2 v40 y6 sQ oB sI o h
theorem FC {a0 : aU} {a1 : Int} {a2 : Int} {r : ah × Int} (h : dC a0 a1 a2 = some r) : ACall Tryz.prog 123 [.str a0, .int .i64 a1, .int .i64 a2] [] (fun res h => res = .fu [.agg r.1.lit, .int .i64 r.2] ∧ h = []) := B7.1 a0 a1 a2 r h
def iK (a0 : aU) : Option (ah × Bool) :=
 dC a0 0 0 >>= fun (v1, v2) =>
 (if v2 = (a0.length : Int) then
 m22 v1 >>= fun v5 =>
 (if v5 = true then
 some (v1, true)
 else
 some ((ah.mk 0 0 [] 0 []), false))
 else
 some ((ah.mk 0 0 [] 0 []), false))
theorem yL {a0 : aU} {r : ah × Bool} (h : iK a0 = some r) : ACall Tryz.prog 75 [.str a0] [] (fun res h => res = .fu [.agg r.1.lit, .bool r.2] ∧ h = []) := by
 refine dx Tryz.func75 ?_
 unfold iK at h
 refine .d (.d ?_)
 obtain ⟨⟨v1, v2⟩, qs, h⟩ := bd h
 refine bJ (FC qs) ⟨rfl, _, fun _ => [.int .i64 v1.aF, .int .i64 v1.aP, .str v1.aQ, .int .i64 v1.aO, sl 8 ae.cells v1.af], rfl, ar rfl, (.d (.d (sN h (fun oN h => ?_) (fun oN h => ?_))))⟩
 refine .t (.t (.t (.t (.d ⟨rfl, _, fun _ => [.int .i64 0, .int .i64 0, .str [], .int .i64 0, .aq], rfl, ar rfl, ?_⟩))))
 obtain rfl := si h
 exact ⟨rfl, _, rfl, (en [] ⟨rfl, rfl⟩ (.bq ⟨.bD ⟨.i, .i, .s, .i, .z, ⟨⟩⟩, .b, ⟨⟩⟩) ⟨⟩)⟩
 refine ⟨rfl, _, rfl, (.f (bk h fun v5 Ac h => (bJ (ZF Ac) (.f (.f (hB h (fun nr h => ?_) (fun nr h => ?_)))))))⟩
 refine .d ⟨rfl, _, fun _ => [.int .i64 0, .int .i64 0, .str [], .int .i64 0, .aq], rfl, ar rfl, ?_⟩
 obtain rfl := si h
 exact ⟨rfl, _, rfl, (en [] ⟨rfl, rfl⟩ (.bq ⟨.bD ⟨.i, .i, .s, .i, .z, ⟨⟩⟩, .b, ⟨⟩⟩) ⟨⟩)⟩
 refine .d ⟨rfl, _, rfl, ⟨rfl, _, fun _ => [.int .i64 v1.aF, .int .i64 v1.aP, .str v1.aQ, .int .i64 v1.aO, sl 8 ae.cells v1.af], rfl, ar rfl, ?_⟩⟩
 obtain rfl := si h
 exact ⟨rfl, _, rfl, (en [] ⟨rfl, rfl⟩ (.bq ⟨.bD ⟨.i, .i, .s, .i, .l, ⟨⟩⟩, .b, ⟨⟩⟩) ⟨⟩)⟩
end Go.Am
