/- Texts of the proof, joined and shortened. -/
import Derived.Test.YtalfppmpmnlnlaaGreatDoorPk5
set_option linter.unusedVariables false
set_option linter.unusedSimpArgs false
set_option maxRecDepth 100000
namespace Go.Am
open Go Go.RowKit Go.Proofs
def iD (y6 : Int) (s7 : ba) : Option (ba) :=
 (if y6 > 0 then
 gZ ([UInt8.ofNat (IntKind.u8.wrap (ah (48 + (y6.tmod 10)))).toNat] : List UInt8) s7 >>= fun s11 =>
 iD (ah (y6.tdiv 10)) s11
 else
 some s7)
partial_fixpoint
def aQ (a0 : Int) : Option (ba) :=
 (if a0 ≤ 0 then
 some [109, 48]
 else
 (
 iD a0 []
 : Option (ba)) >>= fun s2 =>
 gZ [109] s2 >>= fun s15 =>
 some s15)
theorem cj {a0 : Int} {r : ba} (h : aQ a0 = some r) : ACall Tryz.prog 65 [.int .i64 a0] [] (fun res h => res = .str r ∧ h = []) := by
 refine cP Tryz.func65 ?_
 unfold aQ at h
 refine .d (.d (.d (sD h (fun de h => ?_) (fun de h => ?_))))
 exact .d (eS h)
 refine .d ?_
 obtain ⟨o3, DH, uQ⟩ := bd h
 replace h := DH
 refine .cut (fun σ η => ∃ s2, s2 = o3 ∧ σ = [(3, .str s2)] ∧ η = []) ?_ ?_
 refine le (iD.partial_correctness  (motive := fun y6 s7 Xs => o3 = Xs → az _ _ [(0, .int .i64 y6), (3, .str s7)] []) ?_ a0 [] o3 h rfl) (tk [] ⟨.i, .s, ⟨⟩⟩ ⟨⟩)
 intro F9 CQ y6 s7 Xs h Ts
 subst Ts
 refine az.round (.d (.d (sD h (fun eY h => ?_) (fun eY h => ?_))))
 exact .d ⟨by decide, ⟨row cB ([UInt8.ofNat (IntKind.u8.wrap (ah (48 + (y6.tmod 10)))).toNat] : List UInt8), dN cB ([UInt8.ofNat (IntKind.u8.wrap (ah (48 + (y6.tmod 10)))).toNat] : List UInt8) rfl (oY (qj _) ⟨.same _, trivial⟩ trivial), ⟨rfl, ([UInt8.ofNat (IntKind.u8.wrap (ah (48 + (y6.tmod 10)))).toNat] : List UInt8), rfl, qk bg rfl, (bk h fun s11 dT h => ⟨bZ dT, s11, b8 dT, ⟨by decide, (lg (CQ _ _ _ h rfl) (tk [] ⟨.i, .s, ⟨⟩⟩ ⟨⟩))⟩⟩)⟩⟩⟩
 exact ct ⟨_, si h, rfl, rfl⟩ (tk [] ⟨.s, ⟨⟩⟩ ⟨⟩)
 rintro _ _ ⟨s2, rfl, rfl, rfl⟩
 replace h := uQ
 exact .d (bk h fun s15 rK h => ⟨bZ rK, s15, b8 rK, (eS h)⟩)
def fG (a0 : List TParam) (l8 : List TParam) (aU : Int) (bz : Int) : Option (Int × (List TParam)) :=
 (if bz < (a0.length : Int) then
 aQ aU >>= fun db =>
 idx l8 bz >>= fun aV =>
 fG a0 (l8.set bz.toNat (TParam.mk db (((ah (aU + 1)).tmod 3) == 0))) (ah ((ah (aU + 1)) + 1)) (ah (bz + 1))
 else
 some (aU, l8))
partial_fixpoint
def ji (a0 : List TParam) (a1 : Int) : Option (Int × (List TParam)) :=
 (
 fG a0 a0 a1 0
 : Option (Int × (List TParam))) >>= fun (y1, l2) =>
 some (y1, l2)
theorem su {a0 : List TParam} {a1 : Int} {r : Int × (List TParam)} {g1000 : Nat} {bL : Nat} {dJ : Nat → List PV} (h : ji a0 a1 = some r) (ca : DR (ud TParam.cells) bL dJ a0) : ACall Tryz.prog 66 [.own 0 g1000 0 bL, .int .i64 a1] [.row g1000 2 bL 61 dJ] (fun res h => ∃ F0 : Nat → List PV, DR (ud TParam.cells) bL F0 r.2 ∧ res = .int .i64 r.1 ∧ h = [.row g1000 2 bL 61 F0]) := by
 obtain rfl := ca.len
 refine cP Tryz.func66 ?_
 unfold ji at h
 refine .d ?_
 obtain ⟨o5, xD, vU⟩ := bd h
 replace h := xD
 refine .cut (fun σ η => ∃ y1, ∃ l2, ∃ f3 : Nat → List PV, DR (ud TParam.cells) a0.length f3 l2 ∧ (y1, l2) = o5 ∧ σ = [(1, .int .i64 y1)] ∧ η = [.row g1000 2 a0.length 61 f3]) ?_ ?_
 refine .d ?_
 refine le (fG.partial_correctness a0 (motive := fun l8 aU bz Xt => ∀ f9 : Nat → List PV, DR (ud TParam.cells) a0.length f9 l8 → o5 = Xt → az _ _ [(0, .own 0 g1000 0 a0.length), (1, .int .i64 aU), (5, .int .i64 bz)] [.row g1000 2 a0.length 61 f9]) ?_ a0 a1 0 o5 h dJ ca rfl) (tk [0] ⟨(.od agq), .i, .i, ⟨⟩⟩ ⟨(sw ca), ⟨⟩⟩)
 intro RQ qE l8 aU bz Xt h f9 d10 Tt
 subst Tt
 refine az.round (.d (.d ⟨rfl, (sD h (fun dI h => ?_) (fun dI h => ?_))⟩))
 refine .d (.d (bk h fun db rL h => (bO (cj rL) (bk h fun aV da h => ⟨rfl, DR.bd d10 da, _, No _, ⟨rfl, ⟨rfl, _, (bw f9 bz.toNat [.str db, .bool aV.vh]), (DR.idx d10 da), mT ⟨.same _, .same _, trivial⟩, (.d (.d ⟨by decide, ⟨rfl, DR.bd d10 da, _, No _, ⟨rfl, ⟨rfl, _, (bw f9 bz.toNat [.str db, .bool (((ah (aU + 1)).tmod 3) == 0)]), aP, dZ ⟨.same _, .same _, trivial⟩, ?_⟩⟩⟩⟩))⟩⟩⟩))))
 have d20 : DR (ud TParam.cells) a0.length (bw f9 bz.toNat [.str db, .bool (((ah (aU + 1)).tmod 3) == 0)]) (l8.set bz.toNat (TParam.mk db (((ah (aU + 1)).tmod 3) == 0))) := DR.set d10 (gY da) (show ud TParam.cells [.str db, .bool (((ah (aU + 1)).tmod 3) == 0)] (TParam.mk db (((ah (aU + 1)).tmod 3) == 0)) from rfl)
 exact lg (qE _ _ _ _ h (bw f9 bz.toNat [.str db, .bool (((ah (aU + 1)).tmod 3) == 0)]) d20 rfl) (tk [0] ⟨(.od (by first | rfl | exact d20.len | exact d20.len.symm)), .i, .i, ⟨⟩⟩ ⟨(sw d20), ⟨⟩⟩)
 exact afR
 rintro _ _ ⟨y1, l2, f3, d4, rfl, rfl, rfl⟩
 replace h := vU
 refine .d ?_
 exact afz
def eL (a0 : List ba) (l8 : List ba) (aU : Int) (bz : Int) : Option (Int × (List ba)) :=
 (if bz < (a0.length : Int) then
 aQ aU >>= fun db =>
 idx l8 bz >>= fun aV =>
 eL a0 (l8.set bz.toNat db) (ah (aU + 1)) (ah (bz + 1))
 else
 some (aU, l8))
partial_fixpoint
def jB (a0 : List ba) (a1 : Int) : Option (Int × (List ba)) :=
 (
 eL a0 a0 a1 0
 : Option (Int × (List ba))) >>= fun (y1, l2) =>
 some (y1, l2)
theorem xE {a0 : List ba} {a1 : Int} {r : Int × (List ba)} {g1000 : Nat} {bL : Nat} {dJ : Nat → List PV} (h : jB a0 a1 = some r) (ca : DR (ud cS) bL dJ a0) : ACall Tryz.prog 67 [.own 0 g1000 0 bL, .int .i64 a1] [.row g1000 1 bL 9 dJ] (fun res h => ∃ F0 : Nat → List PV, DR (ud cS) bL F0 r.2 ∧ res = .int .i64 r.1 ∧ h = [.row g1000 1 bL 9 F0]) := by
 obtain rfl := ca.len
 refine cP Tryz.func67 ?_
 unfold jB at h
 refine .d ?_
 obtain ⟨o5, xD, vU⟩ := bd h
 replace h := xD
 refine .cut (fun σ η => ∃ y1, ∃ l2, ∃ f3 : Nat → List PV, DR (ud cS) a0.length f3 l2 ∧ (y1, l2) = o5 ∧ σ = [(1, .int .i64 y1)] ∧ η = [.row g1000 1 a0.length 9 f3]) ?_ ?_
 refine .d ?_
 refine le (eL.partial_correctness a0 (motive := fun l8 aU bz Xt => ∀ f9 : Nat → List PV, DR (ud cS) a0.length f9 l8 → o5 = Xt → az _ _ [(0, .own 0 g1000 0 a0.length), (1, .int .i64 aU), (5, .int .i64 bz)] [.row g1000 1 a0.length 9 f9]) ?_ a0 a1 0 o5 h dJ ca rfl) (tk [0] ⟨(.od agq), .i, .i, ⟨⟩⟩ ⟨(sw ca), ⟨⟩⟩)
 intro RQ qE l8 aU bz Xt h f9 d10 Tt
 subst Tt
 refine az.round (.d (.d ⟨rfl, (sD h (fun dI h => ?_) (fun dI h => ?_))⟩))
 refine .d (.d (bk h fun db rL h => (bO (cj rL) (bk h fun aV da h => ⟨rfl, DR.bd d10 da, _, No _, ⟨rfl, _, (bw f9 bz.toNat [.str db]), (DR.idx d10 da), mT ⟨.same _, trivial⟩, ?_⟩⟩))))
 have d20 : DR (ud cS) a0.length (bw f9 bz.toNat [.str db]) (l8.set bz.toNat db) := DR.set d10 (gY da) (show ud cS [.str db] db from rfl)
 exact lg (qE _ _ _ _ h (bw f9 bz.toNat [.str db]) d20 rfl) (tk [0] ⟨(.od (by first | rfl | exact d20.len | exact d20.len.symm)), .i, .i, ⟨⟩⟩ ⟨(sw d20), ⟨⟩⟩)
 exact afR
 rintro _ _ ⟨y1, l2, f3, d4, rfl, rfl, rfl⟩
 replace h := vU
 refine .d ?_
 exact afz
def iE (a0 : List aR) (l8 : List aR) (aU : Int) (bz : Int) : Option (Int × (List aR)) :=
 (if bz < (a0.length : Int) then
 idx l8 bz >>= fun ue =>
 aQ (ah ((ah ((ah (aU + 1)) + 1)) + 1)) >>= fun oN =>
 aQ (ah ((ah ((ah ((ah (aU + 1)) + 1)) + 1)) + 1)) >>= fun v20 =>
 iE a0 (l8.set bz.toNat (aR.mk aU (ah (aU + 1)) (ah ((ah (aU + 1)) + 1)) oN v20)) (ah ((ah ((ah ((ah ((ah (aU + 1)) + 1)) + 1)) + 1)) + 1)) (ah (bz + 1))
 else
 some (aU, l8))
partial_fixpoint
def mj (a0 : List aR) (a1 : Int) : Option (Int × (List aR)) :=
 (
 iE a0 a0 a1 0
 : Option (Int × (List aR))) >>= fun (y1, l2) =>
 some (y1, l2)
theorem Ck {a0 : List aR} {a1 : Int} {r : Int × (List aR)} {g1000 : Nat} {bL : Nat} {dJ : Nat → List PV} (h : mj a0 a1 = some r) (ca : DR (ud aR.cells) bL dJ a0) : ACall Tryz.prog 68 [.own 0 g1000 0 bL, .int .i64 a1] [.row g1000 5 bL 64 dJ] (fun res h => ∃ F0 : Nat → List PV, DR (ud aR.cells) bL F0 r.2 ∧ res = .int .i64 r.1 ∧ h = [.row g1000 5 bL 64 F0]) := by
 obtain rfl := ca.len
 refine cP Tryz.func68 ?_
 unfold mj at h
 refine .d ?_
 obtain ⟨o5, xD, vU⟩ := bd h
 replace h := xD
 refine .cut (fun σ η => ∃ y1, ∃ l2, ∃ f3 : Nat → List PV, DR (ud aR.cells) a0.length f3 l2 ∧ (y1, l2) = o5 ∧ σ = [(1, .int .i64 y1)] ∧ η = [.row g1000 5 a0.length 64 f3]) ?_ ?_
 refine .d ?_
 refine le (iE.partial_correctness a0 (motive := fun l8 aU bz J5 => ∀ f9 : Nat → List PV, DR (ud aR.cells) a0.length f9 l8 → o5 = J5 → az _ _ [(0, .own 0 g1000 0 a0.length), (1, .int .i64 aU), (5, .int .i64 bz)] [.row g1000 5 a0.length 64 f9]) ?_ a0 a1 0 o5 h dJ ca rfl) (tk [0] ⟨(.od agq), .i, .i, ⟨⟩⟩ ⟨(sw ca), ⟨⟩⟩)
 intro RQ qE l8 aU bz J5 h f9 d10 Mq
 subst Mq
 refine az.round (.d (.d ⟨rfl, (sD h (fun dI h => ?_) (fun dI h => ?_))⟩))
 refine .d (.d (bk h fun ue qF h => ⟨rfl, DR.bd d10 qF, _, No _, ⟨rfl, ⟨rfl, _, (bw f9 bz.toNat [.int .i64 aU, .int .i64 ue.fA, .int .i64 ue.fB, .str ue.fS, .str ue.fT]), (DR.idx d10 qF), mT ⟨.same _, .same _, .same _, .same _, .same _, trivial⟩, (.d (.d ⟨rfl, DR.bd d10 qF, _, No _, ⟨rfl, ⟨rfl, _, (bw f9 bz.toNat [.int .i64 aU, .int .i64 (ah (aU + 1)), .int .i64 ue.fB, .str ue.fS, .str ue.fT]), aP, dZ ⟨.same _, .same _, .same _, .same _, .same _, trivial⟩, (.d (.d ⟨rfl, DR.bd d10 qF, _, No _, ⟨rfl, ?_⟩⟩))⟩⟩⟩))⟩⟩⟩))
 refine ⟨rfl, _, (bw f9 bz.toNat [.int .i64 aU, .int .i64 (ah (aU + 1)), .int .i64 (ah ((ah (aU + 1)) + 1)), .str ue.fS, .str ue.fT]), aP, dZ ⟨.same _, .same _, .same _, .same _, .same _, trivial⟩, (.d (.d (bk h fun oN D5 h => (bO (cj D5) ⟨rfl, DR.bd d10 qF, _, No _, ⟨rfl, ⟨rfl, _, (bw f9 bz.toNat [.int .i64 aU, .int .i64 (ah (aU + 1)), .int .i64 (ah ((ah (aU + 1)) + 1)), .str oN, .str ue.fT]), aP, dZ ⟨.same _, .same _, .same _, .same _, .same _, trivial⟩, (.d (.d (bk h fun v20 xw h => (bO (cj xw) ⟨rfl, DR.bd d10 qF, _, No _, ⟨rfl, ⟨rfl, _, (bw f9 bz.toNat [.int .i64 aU, .int .i64 (ah (aU + 1)), .int .i64 (ah ((ah (aU + 1)) + 1)), .str oN, .str v20]), aP, dZ ⟨.same _, .same _, .same _, .same _, .same _, trivial⟩, ?_⟩⟩⟩))))⟩⟩⟩))))⟩
 have d22 : DR (ud aR.cells) a0.length (bw f9 bz.toNat [.int .i64 aU, .int .i64 (ah (aU + 1)), .int .i64 (ah ((ah (aU + 1)) + 1)), .str oN, .str v20]) (l8.set bz.toNat (aR.mk aU (ah (aU + 1)) (ah ((ah (aU + 1)) + 1)) oN v20)) := DR.set d10 (gY qF) (show ud aR.cells [.int .i64 aU, .int .i64 (ah (aU + 1)), .int .i64 (ah ((ah (aU + 1)) + 1)), .str oN, .str v20] (aR.mk aU (ah (aU + 1)) (ah ((ah (aU + 1)) + 1)) oN v20) from rfl)
 exact lg (qE _ _ _ _ h (bw f9 bz.toNat [.int .i64 aU, .int .i64 (ah (aU + 1)), .int .i64 (ah ((ah (aU + 1)) + 1)), .str oN, .str v20]) d22 rfl) (tk [0] ⟨(.od (by first | rfl | exact d22.len | exact d22.len.symm)), .i, .i, ⟨⟩⟩ ⟨(sw d22), ⟨⟩⟩)
 exact afR
 rintro _ _ ⟨y1, l2, f3, d4, rfl, rfl, rfl⟩
 replace h := vU
 refine .d ?_
 exact afz
def eN (a0 : List ax) (l8 : List ax) (aU : Int) (bz : Int) : Option (Int × (List ax)) :=
 (if bz < (a0.length : Int) then
 aQ aU >>= fun db =>
 idx l8 bz >>= fun aV =>
 aQ (ah (aU + 1)) >>= fun v20 =>
 aQ (ah ((ah (aU + 1)) + 1)) >>= fun vV =>
 eN a0 (l8.set bz.toNat (ax.mk db v20 vV (((ah ((ah ((ah (aU + 1)) + 1)) + 1)).tmod 3) == 0) (((ah ((ah ((ah ((ah (aU + 1)) + 1)) + 1)) + 1)).tmod 3) == 0))) (ah ((ah ((ah ((ah ((ah (aU + 1)) + 1)) + 1)) + 1)) + 1)) (ah (bz + 1))
 else
 some (aU, l8))
partial_fixpoint
def jC (a0 : List ax) (a1 : Int) : Option (Int × (List ax)) :=
 (
 eN a0 a0 a1 0
 : Option (Int × (List ax))) >>= fun (y1, l2) =>
 some (y1, l2)
theorem xF {a0 : List ax} {a1 : Int} {r : Int × (List ax)} {g1000 : Nat} {bL : Nat} {dJ : Nat → List PV} (h : jC a0 a1 = some r) (ca : DR (ud ax.cells) bL dJ a0) : ACall Tryz.prog 70 [.own 0 g1000 0 bL, .int .i64 a1] [.row g1000 5 bL 106 dJ] (fun res h => ∃ F0 : Nat → List PV, DR (ud ax.cells) bL F0 r.2 ∧ res = .int .i64 r.1 ∧ h = [.row g1000 5 bL 106 F0]) := by
 obtain rfl := ca.len
 refine cP Tryz.func70 ?_
 unfold jC at h
 refine .d ?_
 obtain ⟨o5, xD, vU⟩ := bd h
 replace h := xD
 refine .cut (fun σ η => ∃ y1, ∃ l2, ∃ f3 : Nat → List PV, DR (ud ax.cells) a0.length f3 l2 ∧ (y1, l2) = o5 ∧ σ = [(1, .int .i64 y1)] ∧ η = [.row g1000 5 a0.length 106 f3]) ?_ ?_
 refine .d ?_
 refine le (eN.partial_correctness a0 (motive := fun l8 aU bz Ii => ∀ f9 : Nat → List PV, DR (ud ax.cells) a0.length f9 l8 → o5 = Ii → az _ _ [(0, .own 0 g1000 0 a0.length), (1, .int .i64 aU), (5, .int .i64 bz)] [.row g1000 5 a0.length 106 f9]) ?_ a0 a1 0 o5 h dJ ca rfl) (tk [0] ⟨(.od agq), .i, .i, ⟨⟩⟩ ⟨(sw ca), ⟨⟩⟩)
 intro RQ qE l8 aU bz Ii h f9 d10 Tu
 subst Tu
 refine az.round (.d (.d ⟨rfl, (sD h (fun dI h => ?_) (fun dI h => ?_))⟩))
 refine .d (.d (bk h fun db rL h => (bO (cj rL) (bk h fun aV da h => ⟨rfl, DR.bd d10 da, _, No _, ⟨rfl, ⟨rfl, _, (bw f9 bz.toNat [.str db, .str aV.bn, .str aV.fh, .bool aV.bc, .bool aV.fZ]), (DR.idx d10 da), mT ⟨.same _, .same _, .same _, .same _, .same _, trivial⟩, (.d (.d (bk h fun v20 xw h => (bO (cj xw) ⟨rfl, DR.bd d10 da, _, No _, ⟨rfl, ⟨rfl, _, (bw f9 bz.toNat [.str db, .str v20, .str aV.fh, .bool aV.bc, .bool aV.fZ]), aP, dZ ⟨.same _, .same _, .same _, .same _, .same _, trivial⟩, ?_⟩⟩⟩))))⟩⟩⟩))))
 refine .d (.d (bk h fun vV MD h => (bO (cj MD) ⟨rfl, DR.bd d10 da, _, No _, ⟨rfl, ⟨rfl, _, (bw f9 bz.toNat [.str db, .str v20, .str vV, .bool aV.bc, .bool aV.fZ]), aP, dZ ⟨.same _, .same _, .same _, .same _, .same _, trivial⟩, (.d (.d ⟨by decide, ⟨rfl, DR.bd d10 da, _, No _, ⟨rfl, ⟨rfl, _, (bw f9 bz.toNat [.str db, .str v20, .str vV, .bool (((ah ((ah ((ah (aU + 1)) + 1)) + 1)).tmod 3) == 0), .bool aV.fZ]), aP, dZ ⟨.same _, .same _, .same _, .same _, .same _, trivial⟩, (.d (.d ?_))⟩⟩⟩⟩))⟩⟩⟩)))
 refine ⟨by decide, ⟨rfl, DR.bd d10 da, _, No _, ⟨rfl, ⟨rfl, _, (bw f9 bz.toNat [.str db, .str v20, .str vV, .bool (((ah ((ah ((ah (aU + 1)) + 1)) + 1)).tmod 3) == 0), .bool (((ah ((ah ((ah ((ah (aU + 1)) + 1)) + 1)) + 1)).tmod 3) == 0)]), aP, dZ ⟨.same _, .same _, .same _, .same _, .same _, trivial⟩, ?_⟩⟩⟩⟩
 have d24 : DR (ud ax.cells) a0.length (bw f9 bz.toNat [.str db, .str v20, .str vV, .bool (((ah ((ah ((ah (aU + 1)) + 1)) + 1)).tmod 3) == 0), .bool (((ah ((ah ((ah ((ah (aU + 1)) + 1)) + 1)) + 1)).tmod 3) == 0)]) (l8.set bz.toNat (ax.mk db v20 vV (((ah ((ah ((ah (aU + 1)) + 1)) + 1)).tmod 3) == 0) (((ah ((ah ((ah ((ah (aU + 1)) + 1)) + 1)) + 1)).tmod 3) == 0))) := DR.set d10 (gY da) (show ud ax.cells [.str db, .str v20, .str vV, .bool (((ah ((ah ((ah (aU + 1)) + 1)) + 1)).tmod 3) == 0), .bool (((ah ((ah ((ah ((ah (aU + 1)) + 1)) + 1)) + 1)).tmod 3) == 0)] (ax.mk db v20 vV (((ah ((ah ((ah (aU + 1)) + 1)) + 1)).tmod 3) == 0) (((ah ((ah ((ah ((ah (aU + 1)) + 1)) + 1)) + 1)).tmod 3) == 0)) from rfl)
 exact lg (qE _ _ _ _ h (bw f9 bz.toNat [.str db, .str v20, .str vV, .bool (((ah ((ah ((ah (aU + 1)) + 1)) + 1)).tmod 3) == 0), .bool (((ah ((ah ((ah ((ah (aU + 1)) + 1)) + 1)) + 1)).tmod 3) == 0)]) d24 rfl) (tk [0] ⟨(.od (by first | rfl | exact d24.len | exact d24.len.symm)), .i, .i, ⟨⟩⟩ ⟨(sw d24), ⟨⟩⟩)
 exact afR
 rintro _ _ ⟨y1, l2, f3, d4, rfl, rfl, rfl⟩
 replace h := vU
 refine .d ?_
 exact afz
def gJ (a0 : List UInt8) (l8 : List UInt8) (aU : Int) (bz : Int) : Option (Int × (List UInt8)) :=
 (if bz < (a0.length : Int) then
 idx l8 bz >>= fun c16 =>
 gJ a0 (l8.set bz.toNat (UInt8.ofNat (IntKind.u8.wrap (aU)).toNat)) (ah (aU + 1)) (ah (bz + 1))
 else
 some (aU, l8))
partial_fixpoint
def jK (a0 : List UInt8) (a1 : Int) : Option (Int × (List UInt8)) :=
 (
 gJ a0 a0 a1 0
 : Option (Int × (List UInt8))) >>= fun (y1, l2) =>
 some (y1, l2)
theorem Ap {a0 : List UInt8} {a1 : Int} {r : Int × (List UInt8)} {g1000 : Nat} {bL : Nat} {dJ : Nat → List PV} (h : jK a0 a1 = some r) (ca : DR (ud cB) bL dJ a0) : ACall Tryz.prog 12 [.own 0 g1000 0 bL, .int .i64 a1] [.row g1000 1 bL 5 dJ] (fun res h => ∃ F0 : Nat → List PV, DR (ud cB) bL F0 r.2 ∧ res = .int .i64 r.1 ∧ h = [.row g1000 1 bL 5 F0]) := by
 obtain rfl := ca.len
 refine cP Tryz.func12 ?_
 unfold jK at h
 refine .d ?_
 obtain ⟨o5, xD, vU⟩ := bd h
 replace h := xD
 refine .cut (fun σ η => ∃ y1, ∃ l2, ∃ f3 : Nat → List PV, DR (ud cB) a0.length f3 l2 ∧ (y1, l2) = o5 ∧ σ = [(1, .int .i64 y1)] ∧ η = [.row g1000 1 a0.length 5 f3]) ?_ ?_
 refine .d ?_
 refine le (gJ.partial_correctness a0 (motive := fun l8 aU bz RR => ∀ f9 : Nat → List PV, DR (ud cB) a0.length f9 l8 → o5 = RR → az _ _ [(0, .own 0 g1000 0 a0.length), (1, .int .i64 aU), (5, .int .i64 bz)] [.row g1000 1 a0.length 5 f9]) ?_ a0 a1 0 o5 h dJ ca rfl) (tk [0] ⟨(.od agq), .i, .i, ⟨⟩⟩ ⟨(sw ca), ⟨⟩⟩)
 intro RQ qE l8 aU bz RR h f9 d10 aaS
 subst aaS
 refine az.round (.d (.d ⟨rfl, (sD h (fun dI h => ?_) (fun dI h => ?_))⟩))
 refine .d (.d (bk h fun c16 qF h => ⟨rfl, DR.bd d10 qF, _, No _, ⟨rfl, _, (bw f9 bz.toNat [.int .u8 (IntKind.u8.wrap (aU))]), (DR.idx d10 qF), mT ⟨.same _, trivial⟩, ?_⟩⟩))
 have d18 : DR (ud cB) a0.length (bw f9 bz.toNat [.int .u8 (IntKind.u8.wrap (aU))]) (l8.set bz.toNat (UInt8.ofNat (IntKind.u8.wrap (aU)).toNat)) := DR.set d10 (gY qF) (show ud cB [.int .u8 (IntKind.u8.wrap (aU))] (UInt8.ofNat (IntKind.u8.wrap (aU)).toNat) from (qj _).symm)
 exact lg (qE _ _ _ _ h (bw f9 bz.toNat [.int .u8 (IntKind.u8.wrap (aU))]) d18 rfl) (tk [0] ⟨(.od (by first | rfl | exact d18.len | exact d18.len.symm)), .i, .i, ⟨⟩⟩ ⟨(sw d18), ⟨⟩⟩)
 exact afR
 rintro _ _ ⟨y1, l2, f3, d4, rfl, rfl, rfl⟩
 replace h := vU
 refine .d ?_
 exact afz
mutual
def hB (a0 : List ae) (a1 : Int) : Option (Int × (List ae)) :=
 (
 ed a0 a0 a1 0
 : Option (Int × (List ae))) >>= fun (y1, l2) =>
 some (y1, l2)
partial_fixpoint
def ed (a0 : List ae) (l8 : List ae) (aU : Int) (bz : Int) : Option (Int × (List ae)) :=
 (if bz < (a0.length : Int) then
 idx l8 bz >>= fun kH =>
 aQ (ah ((ah (aU + 1)) + 1)) >>= fun nZ =>
 aQ (ah ((ah ((ah ((ah ((ah (aU + 1)) + 1)) + 1)) + 1)) + 1)) >>= fun kY =>
 hB kH.aL.ai (ah ((ah ((ah ((ah ((ah ((ah ((ah (aU + 1)) + 1)) + 1)) + 1)) + 1)) + 1)) + 1)) >>= fun (uL, v28) =>
 ed a0 (l8.set bz.toNat (ae.mk (bJ.mk ((aU.tmod 3) == 0) (ah (aU + 1)) nZ) (af.mk (ah ((ah ((ah (aU + 1)) + 1)) + 1)) (ah ((ah ((ah ((ah (aU + 1)) + 1)) + 1)) + 1)) kY (ah ((ah ((ah ((ah ((ah ((ah (aU + 1)) + 1)) + 1)) + 1)) + 1)) + 1)) v28))) uL (ah (bz + 1))
 else
 some (aU, l8))
partial_fixpoint
end
def D6 (a0 : List ae) (a1 : Int) (r : Int × (List ae)) : Prop := ∀ g1000 : Nat, ∀ bL : Nat, ∀ dJ : Nat → List PV, DR ae.D bL dJ a0 → ACall Tryz.prog 121 [.own 0 g1000 0 bL, .int .i64 a1] [.row g1000 8 bL 197 dJ] (fun res h => ∃ F0 : Nat → List PV, DR ae.D bL F0 r.2 ∧ res = .int .i64 r.1 ∧ h = [.row g1000 8 bL 197 F0])
inductive dy : (List ae) → (List ae) → Int → Int → (Int × (List ae)) → Prop
 | mk (ME : (List ae) → Int → Option (Int × (List ae))) (Xu : ∀ a0 a1 r, ME a0 a1 = some r → D6 a0 a1 r) (ez : (List ae) → (List ae) → Int → Int → Option (Int × (List ae))) (tf : ∀ a0 l8 aU bz o, ez a0 l8 aU bz = some o → dy a0 l8 aU bz o) (a0 : List ae) (l8 : List ae) (aU : Int) (bz : Int) (o : Int × (List ae)) (h : (
 (if bz < (a0.length : Int) then
 idx l8 bz >>= fun kH =>
 aQ (ah ((ah (aU + 1)) + 1)) >>= fun nZ =>
 aQ (ah ((ah ((ah ((ah ((ah (aU + 1)) + 1)) + 1)) + 1)) + 1)) >>= fun kY =>
 ME kH.aL.ai (ah ((ah ((ah ((ah ((ah ((ah ((ah (aU + 1)) + 1)) + 1)) + 1)) + 1)) + 1)) + 1)) >>= fun (uL, v28) =>
 ez a0 (l8.set bz.toNat (ae.mk (bJ.mk ((aU.tmod 3) == 0) (ah (aU + 1)) nZ) (af.mk (ah ((ah ((ah (aU + 1)) + 1)) + 1)) (ah ((ah ((ah ((ah (aU + 1)) + 1)) + 1)) + 1)) kY (ah ((ah ((ah ((ah ((ah ((ah (aU + 1)) + 1)) + 1)) + 1)) + 1)) + 1)) v28))) uL (ah (bz + 1))
 else
 some (aU, l8))
 ) = some o) : dy a0 l8 aU bz o
theorem sK {motive : (List ae) → (List ae) → Int → Int → (Int × (List ae)) → Prop} (step : ∀ (ME : (List ae) → Int → Option (Int × (List ae))) (Xu : ∀ a0 a1 r, ME a0 a1 = some r → D6 a0 a1 r) (ez : (List ae) → (List ae) → Int → Int → Option (Int × (List ae))) (tf : ∀ a0 l8 aU bz o, ez a0 l8 aU bz = some o → dy a0 l8 aU bz o) (a0 : List ae) (l8 : List ae) (aU : Int) (bz : Int) (o : Int × (List ae)) (h : (
 (if bz < (a0.length : Int) then
 idx l8 bz >>= fun kH =>
 aQ (ah ((ah (aU + 1)) + 1)) >>= fun nZ =>
 aQ (ah ((ah ((ah ((ah ((ah (aU + 1)) + 1)) + 1)) + 1)) + 1)) >>= fun kY =>
 ME kH.aL.ai (ah ((ah ((ah ((ah ((ah ((ah ((ah (aU + 1)) + 1)) + 1)) + 1)) + 1)) + 1)) + 1)) >>= fun (uL, v28) =>
 ez a0 (l8.set bz.toNat (ae.mk (bJ.mk ((aU.tmod 3) == 0) (ah (aU + 1)) nZ) (af.mk (ah ((ah ((ah (aU + 1)) + 1)) + 1)) (ah ((ah ((ah ((ah (aU + 1)) + 1)) + 1)) + 1)) kY (ah ((ah ((ah ((ah ((ah ((ah (aU + 1)) + 1)) + 1)) + 1)) + 1)) + 1)) v28))) uL (ah (bz + 1))
 else
 some (aU, l8))
 ) = some o) (ih : ∀ a0 l8 aU bz o, ez a0 l8 aU bz = some o → motive a0 l8 aU bz o), motive a0 l8 aU bz o) : ∀ a0 l8 aU bz o, dy a0 l8 aU bz o → motive a0 l8 aU bz o :=
 fun a0 l8 aU bz o h => dy.rec (motive := fun a0 l8 aU bz o _ => motive a0 l8 aU bz o) step h
theorem wg : (∀ a0 a1 r, hB a0 a1 = some r → D6 a0 a1 r) ∧ (∀ a0 l8 aU bz o, ed a0 l8 aU bz = some o → dy a0 l8 aU bz o) := by
 refine hB.mutual_partial_correctness D6 dy ?_ ?_
 intro _ aaT a0 a1 r h g1000 bL dJ ca
 obtain rfl := ca.len
 refine cP Tryz.func121 ?_
 refine .d ?_
 obtain ⟨o5, xD, vU⟩ := bd h
 replace h := xD
 refine .cut (fun σ η => ∃ y1, ∃ l2, ∃ f3 : Nat → List PV, DR ae.D a0.length f3 l2 ∧ (y1, l2) = o5 ∧ σ = [(1, .int .i64 y1)] ∧ η = [.row g1000 8 a0.length 197 f3]) ?_ ?_
 refine .d ?_
 have aaU := aaT _ _ _ _ _ h
 refine le (sK (motive := fun p36 l8 aU bz o34 => ∀ f9 : Nat → List PV, DR ae.D a0.length f9 l8 → a0 = p36 → o5 = o34 → az _ _ [(0, .own 0 g1000 0 a0.length), (1, .int .i64 aU), (5, .int .i64 bz)] [.row g1000 8 a0.length 197 f9]) ?_ a0 a0 a1 0 o5 aaU dJ ca rfl rfl) (tk [0] ⟨(.od agq), .i, .i, ⟨⟩⟩ ⟨(sw ca), ⟨⟩⟩)
 intro _ aaV _ _ p36 l8 aU bz o34 h qE f9 d10 Tv aaW
 subst Tv
 subst aaW
 refine az.round (.d (.d ⟨rfl, (sD h (fun lx h => ?_) (fun lx h => ?_))⟩))
 refine .d (.d ⟨by decide, (bk h fun kH k9 h => ?_)⟩)
 obtain ⟨PG, f20, e22, d21⟩ := ae.ta (DR.idx d10 k9)
 refine ⟨rfl, DR.bd d10 k9, _, No _, ⟨rfl, ⟨rfl, ⟨rfl, _, (bw f9 bz.toNat [.bool ((aU.tmod 3) == 0), .int .i64 kH.aX.bb, .str kH.aX.bm, .int .i64 kH.aL.aJ, .int .i64 kH.aL.bb, .str kH.aL.bm, .int .i64 kH.aL.bs, .aY 8 kH.aL.ai.length 197 f20 PG]), e22, mT ⟨.same _, .same _, .same _, .same _, .same _, .same _, .same _, .same _, trivial⟩, (.d (.d ⟨rfl, DR.bd d10 k9, _, No _, ⟨rfl, ⟨rfl, ⟨rfl, _, (bw f9 bz.toNat [.bool ((aU.tmod 3) == 0), .int .i64 (ah (aU + 1)), .str kH.aX.bm, .int .i64 kH.aL.aJ, .int .i64 kH.aL.bb, .str kH.aL.bm, .int .i64 kH.aL.bs, .aY 8 kH.aL.ai.length 197 f20 PG]), aP, dZ ⟨.same _, .same _, .same _, .same _, .same _, .same _, .same _, .same _, trivial⟩, (.d (.d (bk h fun nZ xB h => (bO (cj xB) ⟨rfl, DR.bd d10 k9, _, No _, ?_⟩))))⟩⟩⟩⟩))⟩⟩⟩⟩
 refine ⟨rfl, ⟨rfl, ⟨rfl, _, (bw f9 bz.toNat [.bool ((aU.tmod 3) == 0), .int .i64 (ah (aU + 1)), .str nZ, .int .i64 kH.aL.aJ, .int .i64 kH.aL.bb, .str kH.aL.bm, .int .i64 kH.aL.bs, .aY 8 kH.aL.ai.length 197 f20 PG]), aP, dZ ⟨.same _, .same _, .same _, .same _, .same _, .same _, .same _, .same _, trivial⟩, (.d (.d ⟨rfl, DR.bd d10 k9, _, No _, ⟨rfl, ⟨rfl, ⟨rfl, _, (bw f9 bz.toNat [.bool ((aU.tmod 3) == 0), .int .i64 (ah (aU + 1)), .str nZ, .int .i64 (ah ((ah ((ah (aU + 1)) + 1)) + 1)), .int .i64 kH.aL.bb, .str kH.aL.bm, .int .i64 kH.aL.bs, .aY 8 kH.aL.ai.length 197 f20 PG]), aP, dZ ⟨.same _, .same _, .same _, .same _, .same _, .same _, .same _, .same _, trivial⟩, (.d (.d ⟨rfl, DR.bd d10 k9, _, No _, ⟨rfl, ⟨rfl, ⟨rfl, _, (bw f9 bz.toNat [.bool ((aU.tmod 3) == 0), .int .i64 (ah (aU + 1)), .str nZ, .int .i64 (ah ((ah ((ah (aU + 1)) + 1)) + 1)), .int .i64 (ah ((ah ((ah ((ah (aU + 1)) + 1)) + 1)) + 1)), .str kH.aL.bm, .int .i64 kH.aL.bs, .aY 8 kH.aL.ai.length 197 f20 PG]), aP, dZ ⟨.same _, .same _, .same _, .same _, .same _, .same _, .same _, .same _, trivial⟩, ?_⟩⟩⟩⟩))⟩⟩⟩⟩))⟩⟩⟩
 refine .d (.d (bk h fun kY D7 h => (bO (cj D7) ⟨rfl, DR.bd d10 k9, _, No _, ⟨rfl, ⟨rfl, ⟨rfl, _, (bw f9 bz.toNat [.bool ((aU.tmod 3) == 0), .int .i64 (ah (aU + 1)), .str nZ, .int .i64 (ah ((ah ((ah (aU + 1)) + 1)) + 1)), .int .i64 (ah ((ah ((ah ((ah (aU + 1)) + 1)) + 1)) + 1)), .str kY, .int .i64 kH.aL.bs, .aY 8 kH.aL.ai.length 197 f20 PG]), aP, dZ ⟨.same _, .same _, .same _, .same _, .same _, .same _, .same _, .same _, trivial⟩, (.d (.d ⟨rfl, DR.bd d10 k9, _, No _, ⟨rfl, ⟨rfl, ⟨rfl, _, (bw f9 bz.toNat [.bool ((aU.tmod 3) == 0), .int .i64 (ah (aU + 1)), .str nZ, .int .i64 (ah ((ah ((ah (aU + 1)) + 1)) + 1)), .int .i64 (ah ((ah ((ah ((ah (aU + 1)) + 1)) + 1)) + 1)), .str kY, .int .i64 (ah ((ah ((ah ((ah ((ah ((ah (aU + 1)) + 1)) + 1)) + 1)) + 1)) + 1)), .aY 8 kH.aL.ai.length 197 f20 PG]), aP, dZ ⟨.same _, .same _, .same _, .same _, .same _, .same _, .same _, .same _, trivial⟩, (.ex [.row g1000 8 a0.length 197 (bw f9 bz.toNat [.bool ((aU.tmod 3) == 0), .int .i64 (ah (aU + 1)), .str nZ, .int .i64 (ah ((ah ((ah (aU + 1)) + 1)) + 1)), .int .i64 (ah ((ah ((ah ((ah (aU + 1)) + 1)) + 1)) + 1)), .str kY, .int .i64 (ah ((ah ((ah ((ah ((ah ((ah (aU + 1)) + 1)) + 1)) + 1)) + 1)) + 1)), .own 1 0 0 kH.aL.ai.length]), .row 0 8 kH.aL.ai.length 197 f20] (RS 0 7 [.bool ((aU.tmod 3) == 0), .int .i64 (ah (aU + 1)), .str nZ, .int .i64 (ah ((ah ((ah (aU + 1)) + 1)) + 1)), .int .i64 (ah ((ah ((ah ((ah (aU + 1)) + 1)) + 1)) + 1)), .str kY, .int .i64 (ah ((ah ((ah ((ah ((ah ((ah (aU + 1)) + 1)) + 1)) + 1)) + 1)) + 1)), .aY 8 kH.aL.ai.length 197 f20 PG] [.bool ((aU.tmod 3) == 0), .int .i64 (ah (aU + 1)), .str nZ, .int .i64 (ah ((ah ((ah (aU + 1)) + 1)) + 1)), .int .i64 (ah ((ah ((ah ((ah (aU + 1)) + 1)) + 1)) + 1)), .str kY, .int .i64 (ah ((ah ((ah ((ah ((ah ((ah (aU + 1)) + 1)) + 1)) + 1)) + 1)) + 1)), .own 1 0 0 kH.aL.ai.length] (bw f9 bz.toNat [.bool ((aU.tmod 3) == 0), .int .i64 (ah (aU + 1)), .str nZ, .int .i64 (ah ((ah ((ah (aU + 1)) + 1)) + 1)), .int .i64 (ah ((ah ((ah ((ah (aU + 1)) + 1)) + 1)) + 1)), .str kY, .int .i64 (ah ((ah ((ah ((ah ((ah ((ah (aU + 1)) + 1)) + 1)) + 1)) + 1)) + 1)), .own 1 0 0 kH.aL.ai.length]) (DR.lt d10 k9) aP aP dR rfl rfl rfl rfl) ?_)⟩⟩⟩⟩))⟩⟩⟩⟩)))
 refine .d ⟨rfl, DR.bd d10 k9, _, No _, ⟨rfl, ⟨rfl, ⟨rfl, _, aP, ?_⟩⟩⟩⟩
 obtain ⟨⟨uL, v28⟩, DM, h⟩ := bd h
 refine zf (aaV _ _ _ DM _ _ _ d21) [1] ⟨(KT d21), ⟨⟩⟩ ?_
 rintro _ _ ⟨f30, d31, rfl, rfl⟩
 refine ⟨.int .i64 uL, [.row g1000 8 a0.length 197 (bw f9 bz.toNat [.bool ((aU.tmod 3) == 0), .int .i64 (ah (aU + 1)), .str nZ, .int .i64 (ah ((ah ((ah (aU + 1)) + 1)) + 1)), .int .i64 (ah ((ah ((ah ((ah (aU + 1)) + 1)) + 1)) + 1)), .str kY, .int .i64 (ah ((ah ((ah ((ah ((ah ((ah (aU + 1)) + 1)) + 1)) + 1)) + 1)) + 1)), .own 1 0 0 kH.aL.ai.length]), .row 0 8 kH.aL.ai.length 197 f30], rfl, (by simp only [mU, fQ, aeg, aem, List.drop, aea, aec, J6, red d31, red d21]; rfl), (.ab 0 bz.toNat 7 1 (fun P8 => [.row g1000 8 a0.length 197 (bw f9 bz.toNat [.bool ((aU.tmod 3) == 0), .int .i64 (ah (aU + 1)), .str nZ, .int .i64 (ah ((ah ((ah (aU + 1)) + 1)) + 1)), .int .i64 (ah ((ah ((ah ((ah (aU + 1)) + 1)) + 1)) + 1)), .str kY, .int .i64 (ah ((ah ((ah ((ah ((ah ((ah (aU + 1)) + 1)) + 1)) + 1)) + 1)) + 1)), .aY 8 kH.aL.ai.length 197 f30 P8]), .dead]) (fun P8 => uG [.bool ((aU.tmod 3) == 0), .int .i64 (ah (aU + 1)), .str nZ, .int .i64 (ah ((ah ((ah (aU + 1)) + 1)) + 1)), .int .i64 (ah ((ah ((ah ((ah (aU + 1)) + 1)) + 1)) + 1)), .str kY, .int .i64 (ah ((ah ((ah ((ah ((ah ((ah (aU + 1)) + 1)) + 1)) + 1)) + 1)) + 1)), .own 1 0 0 kH.aL.ai.length] [.bool ((aU.tmod 3) == 0), .int .i64 (ah (aU + 1)), .str nZ, .int .i64 (ah ((ah ((ah (aU + 1)) + 1)) + 1)), .int .i64 (ah ((ah ((ah ((ah (aU + 1)) + 1)) + 1)) + 1)), .str kY, .int .i64 (ah ((ah ((ah ((ah ((ah ((ah (aU + 1)) + 1)) + 1)) + 1)) + 1)) + 1)), .aY 8 kH.aL.ai.length 197 f30 P8] (bw f9 bz.toNat [.bool ((aU.tmod 3) == 0), .int .i64 (ah (aU + 1)), .str nZ, .int .i64 (ah ((ah ((ah (aU + 1)) + 1)) + 1)), .int .i64 (ah ((ah ((ah ((ah (aU + 1)) + 1)) + 1)) + 1)), .str kY, .int .i64 (ah ((ah ((ah ((ah ((ah ((ah (aU + 1)) + 1)) + 1)) + 1)) + 1)) + 1)), .aY 8 kH.aL.ai.length 197 f30 P8]) (DR.lt d10 k9) aP aP dR (d31).po rfl rfl rfl rfl agj rfl) fun P8 => ?_)⟩
 have d33 : DR ae.D a0.length (bw f9 bz.toNat [.bool ((aU.tmod 3) == 0), .int .i64 (ah (aU + 1)), .str nZ, .int .i64 (ah ((ah ((ah (aU + 1)) + 1)) + 1)), .int .i64 (ah ((ah ((ah ((ah (aU + 1)) + 1)) + 1)) + 1)), .str kY, .int .i64 (ah ((ah ((ah ((ah ((ah ((ah (aU + 1)) + 1)) + 1)) + 1)) + 1)) + 1)), .aY 8 kH.aL.ai.length 197 f30 P8]) (l8.set bz.toNat (ae.mk (bJ.mk ((aU.tmod 3) == 0) (ah (aU + 1)) nZ) (af.mk (ah ((ah ((ah (aU + 1)) + 1)) + 1)) (ah ((ah ((ah ((ah (aU + 1)) + 1)) + 1)) + 1)) kY (ah ((ah ((ah ((ah ((ah ((ah (aU + 1)) + 1)) + 1)) + 1)) + 1)) + 1)) v28))) := DR.set d10 (gY k9) (ae.vi (x := (ae.mk (bJ.mk ((aU.tmod 3) == 0) (ah (aU + 1)) nZ) (af.mk (ah ((ah ((ah (aU + 1)) + 1)) + 1)) (ah ((ah ((ah ((ah (aU + 1)) + 1)) + 1)) + 1)) kY (ah ((ah ((ah ((ah ((ah ((ah (aU + 1)) + 1)) + 1)) + 1)) + 1)) + 1)) v28))) d31 : ae.D [.bool ((aU.tmod 3) == 0), .int .i64 (ah (aU + 1)), .str nZ, .int .i64 (ah ((ah ((ah (aU + 1)) + 1)) + 1)), .int .i64 (ah ((ah ((ah ((ah (aU + 1)) + 1)) + 1)) + 1)), .str kY, .int .i64 (ah ((ah ((ah ((ah ((ah ((ah (aU + 1)) + 1)) + 1)) + 1)) + 1)) + 1)), .aY 8 kH.aL.ai.length 197 f30 P8] (ae.mk (bJ.mk ((aU.tmod 3) == 0) (ah (aU + 1)) nZ) (af.mk (ah ((ah ((ah (aU + 1)) + 1)) + 1)) (ah ((ah ((ah ((ah (aU + 1)) + 1)) + 1)) + 1)) kY (ah ((ah ((ah ((ah ((ah ((ah (aU + 1)) + 1)) + 1)) + 1)) + 1)) + 1)) v28)))
 exact lg (qE _ _ _ _ _ h (bw f9 bz.toNat [.bool ((aU.tmod 3) == 0), .int .i64 (ah (aU + 1)), .str nZ, .int .i64 (ah ((ah ((ah (aU + 1)) + 1)) + 1)), .int .i64 (ah ((ah ((ah ((ah (aU + 1)) + 1)) + 1)) + 1)), .str kY, .int .i64 (ah ((ah ((ah ((ah ((ah ((ah (aU + 1)) + 1)) + 1)) + 1)) + 1)) + 1)), .aY 8 kH.aL.ai.length 197 f30 P8]) d33 rfl rfl) (tk [0] ⟨(.od (by first | rfl | exact d33.len | exact d33.len.symm)), .i, .i, ⟨⟩⟩ ⟨(sw d33), ⟨⟩⟩)
 exact afR
 rintro _ _ ⟨y1, l2, f3, d4, rfl, rfl, rfl⟩
 replace h := vU
 refine .d ?_
 exact afz
 intro F0 F1 B8 B9 a0 l8 aU bz o h
 exact .mk F0 B8 F1 B9 a0 l8 aU bz o h
theorem zg {a0 : List ae} {a1 : Int} {r : Int × (List ae)} {g1000 : Nat} {bL : Nat} {dJ : Nat → List PV} (h : hB a0 a1 = some r) (ca : DR ae.D bL dJ a0) : ACall Tryz.prog 121 [.own 0 g1000 0 bL, .int .i64 a1] [.row g1000 8 bL 197 dJ] (fun res h => ∃ F0 : Nat → List PV, DR ae.D bL F0 r.2 ∧ res = .int .i64 r.1 ∧ h = [.row g1000 8 bL 197 F0]) := wg.1 a0 a1 r h g1000 bL dJ ca
def fH (a0 : List aB) (l8 : List aB) (aU : Int) (bz : Int) : Option (Int × (List aB)) :=
 (if bz < (a0.length : Int) then
 aQ aU >>= fun db =>
 idx l8 bz >>= fun aV =>
 aQ (ah (aU + 1)) >>= fun v24 =>
 aQ (ah ((ah ((ah ((ah ((ah (aU + 1)) + 1)) + 1)) + 1)) + 1)) >>= fun dj =>
 hB aV.aH.ai (ah ((ah ((ah ((ah ((ah ((ah ((ah (aU + 1)) + 1)) + 1)) + 1)) + 1)) + 1)) + 1)) >>= fun (v28, KU) =>
 fH a0 (l8.set bz.toNat (aB.mk db v24 (((ah ((ah (aU + 1)) + 1)).tmod 3) == 0) (af.mk (ah ((ah ((ah (aU + 1)) + 1)) + 1)) (ah ((ah ((ah ((ah (aU + 1)) + 1)) + 1)) + 1)) dj (ah ((ah ((ah ((ah ((ah ((ah (aU + 1)) + 1)) + 1)) + 1)) + 1)) + 1)) KU))) v28 (ah (bz + 1))
 else
 some (aU, l8))
partial_fixpoint
def ki (a0 : List aB) (a1 : Int) : Option (Int × (List aB)) :=
 (
 fH a0 a0 a1 0
 : Option (Int × (List aB))) >>= fun (y1, l2) =>
 some (y1, l2)
theorem zh {a0 : List aB} {a1 : Int} {r : Int × (List aB)} {g1000 : Nat} {bL : Nat} {dJ : Nat → List PV} (h : ki a0 a1 = some r) (ca : DR aB.D bL dJ a0) : ACall Tryz.prog 69 [.own 0 g1000 0 bL, .int .i64 a1] [.row g1000 8 bL 99 dJ] (fun res h => ∃ F0 : Nat → List PV, DR aB.D bL F0 r.2 ∧ res = .int .i64 r.1 ∧ h = [.row g1000 8 bL 99 F0]) := by
 obtain rfl := ca.len
 refine cP Tryz.func69 ?_
 unfold ki at h
 refine .d ?_
 obtain ⟨o5, xD, vU⟩ := bd h
 replace h := xD
 refine .cut (fun σ η => ∃ y1, ∃ l2, ∃ f3 : Nat → List PV, DR aB.D a0.length f3 l2 ∧ (y1, l2) = o5 ∧ σ = [(1, .int .i64 y1)] ∧ η = [.row g1000 8 a0.length 99 f3]) ?_ ?_
 refine .d ?_
 refine le (fH.partial_correctness a0 (motive := fun l8 aU bz WI => ∀ f9 : Nat → List PV, DR aB.D a0.length f9 l8 → o5 = WI → az _ _ [(0, .own 0 g1000 0 a0.length), (1, .int .i64 aU), (5, .int .i64 bz)] [.row g1000 8 a0.length 99 f9]) ?_ a0 a1 0 o5 h dJ ca rfl) (tk [0] ⟨(.od agq), .i, .i, ⟨⟩⟩ ⟨(sw ca), ⟨⟩⟩)
 intro RQ qE l8 aU bz WI h f9 d10 aaX
 subst aaX
 refine az.round (.d (.d ⟨rfl, (sD h (fun dI h => ?_) (fun dI h => ?_))⟩))
 refine .d (.d (bk h fun db rL h => (bO (cj rL) (bk h fun aV da h => ?_))))
 obtain ⟨Ij, f21, e23, d22⟩ := aB.ta (DR.idx d10 da)
 refine ⟨rfl, DR.bd d10 da, _, No _, ⟨rfl, ⟨rfl, _, (bw f9 bz.toNat [.str db, .str aV.bn, .bool aV.bc, .int .i64 aV.aH.aJ, .int .i64 aV.aH.bb, .str aV.aH.bm, .int .i64 aV.aH.bs, .aY 8 aV.aH.ai.length 197 f21 Ij]), e23, mT ⟨.same _, .same _, .same _, .same _, .same _, .same _, .same _, .same _, trivial⟩, (.d (.d (bk h fun v24 Tw h => (bO (cj Tw) ⟨rfl, DR.bd d10 da, _, No _, ⟨rfl, ⟨rfl, _, (bw f9 bz.toNat [.str db, .str v24, .bool aV.bc, .int .i64 aV.aH.aJ, .int .i64 aV.aH.bb, .str aV.aH.bm, .int .i64 aV.aH.bs, .aY 8 aV.aH.ai.length 197 f21 Ij]), aP, dZ ⟨.same _, .same _, .same _, .same _, .same _, .same _, .same _, .same _, trivial⟩, (.d (.d ⟨by decide, ⟨rfl, DR.bd d10 da, _, No _, ⟨rfl, ?_⟩⟩⟩))⟩⟩⟩))))⟩⟩⟩
 refine ⟨rfl, _, (bw f9 bz.toNat [.str db, .str v24, .bool (((ah ((ah (aU + 1)) + 1)).tmod 3) == 0), .int .i64 aV.aH.aJ, .int .i64 aV.aH.bb, .str aV.aH.bm, .int .i64 aV.aH.bs, .aY 8 aV.aH.ai.length 197 f21 Ij]), aP, dZ ⟨.same _, .same _, .same _, .same _, .same _, .same _, .same _, .same _, trivial⟩, (.d (.d ⟨rfl, DR.bd d10 da, _, No _, ⟨rfl, ⟨rfl, ⟨rfl, _, (bw f9 bz.toNat [.str db, .str v24, .bool (((ah ((ah (aU + 1)) + 1)).tmod 3) == 0), .int .i64 (ah ((ah ((ah (aU + 1)) + 1)) + 1)), .int .i64 aV.aH.bb, .str aV.aH.bm, .int .i64 aV.aH.bs, .aY 8 aV.aH.ai.length 197 f21 Ij]), aP, dZ ⟨.same _, .same _, .same _, .same _, .same _, .same _, .same _, .same _, trivial⟩, (.d (.d ⟨rfl, DR.bd d10 da, _, No _, ⟨rfl, ⟨rfl, ⟨rfl, _, (bw f9 bz.toNat [.str db, .str v24, .bool (((ah ((ah (aU + 1)) + 1)).tmod 3) == 0), .int .i64 (ah ((ah ((ah (aU + 1)) + 1)) + 1)), .int .i64 (ah ((ah ((ah ((ah (aU + 1)) + 1)) + 1)) + 1)), .str aV.aH.bm, .int .i64 aV.aH.bs, .aY 8 aV.aH.ai.length 197 f21 Ij]), aP, dZ ⟨.same _, .same _, .same _, .same _, .same _, .same _, .same _, .same _, trivial⟩, (.d (.d ?_))⟩⟩⟩⟩))⟩⟩⟩⟩))⟩
 refine bk h fun dj DV h => (bO (cj DV) ⟨rfl, DR.bd d10 da, _, No _, ⟨rfl, ⟨rfl, ⟨rfl, _, (bw f9 bz.toNat [.str db, .str v24, .bool (((ah ((ah (aU + 1)) + 1)).tmod 3) == 0), .int .i64 (ah ((ah ((ah (aU + 1)) + 1)) + 1)), .int .i64 (ah ((ah ((ah ((ah (aU + 1)) + 1)) + 1)) + 1)), .str dj, .int .i64 aV.aH.bs, .aY 8 aV.aH.ai.length 197 f21 Ij]), aP, dZ ⟨.same _, .same _, .same _, .same _, .same _, .same _, .same _, .same _, trivial⟩, (.d (.d ⟨rfl, DR.bd d10 da, _, No _, ⟨rfl, ⟨rfl, ⟨rfl, _, (bw f9 bz.toNat [.str db, .str v24, .bool (((ah ((ah (aU + 1)) + 1)).tmod 3) == 0), .int .i64 (ah ((ah ((ah (aU + 1)) + 1)) + 1)), .int .i64 (ah ((ah ((ah ((ah (aU + 1)) + 1)) + 1)) + 1)), .str dj, .int .i64 (ah ((ah ((ah ((ah ((ah ((ah (aU + 1)) + 1)) + 1)) + 1)) + 1)) + 1)), .aY 8 aV.aH.ai.length 197 f21 Ij]), aP, dZ ⟨.same _, .same _, .same _, .same _, .same _, .same _, .same _, .same _, trivial⟩, (.ex [.row g1000 8 a0.length 99 (bw f9 bz.toNat [.str db, .str v24, .bool (((ah ((ah (aU + 1)) + 1)).tmod 3) == 0), .int .i64 (ah ((ah ((ah (aU + 1)) + 1)) + 1)), .int .i64 (ah ((ah ((ah ((ah (aU + 1)) + 1)) + 1)) + 1)), .str dj, .int .i64 (ah ((ah ((ah ((ah ((ah ((ah (aU + 1)) + 1)) + 1)) + 1)) + 1)) + 1)), .own 1 0 0 aV.aH.ai.length]), .row 0 8 aV.aH.ai.length 197 f21] (RS 0 7 [.str db, .str v24, .bool (((ah ((ah (aU + 1)) + 1)).tmod 3) == 0), .int .i64 (ah ((ah ((ah (aU + 1)) + 1)) + 1)), .int .i64 (ah ((ah ((ah ((ah (aU + 1)) + 1)) + 1)) + 1)), .str dj, .int .i64 (ah ((ah ((ah ((ah ((ah ((ah (aU + 1)) + 1)) + 1)) + 1)) + 1)) + 1)), .aY 8 aV.aH.ai.length 197 f21 Ij] [.str db, .str v24, .bool (((ah ((ah (aU + 1)) + 1)).tmod 3) == 0), .int .i64 (ah ((ah ((ah (aU + 1)) + 1)) + 1)), .int .i64 (ah ((ah ((ah ((ah (aU + 1)) + 1)) + 1)) + 1)), .str dj, .int .i64 (ah ((ah ((ah ((ah ((ah ((ah (aU + 1)) + 1)) + 1)) + 1)) + 1)) + 1)), .own 1 0 0 aV.aH.ai.length] (bw f9 bz.toNat [.str db, .str v24, .bool (((ah ((ah (aU + 1)) + 1)).tmod 3) == 0), .int .i64 (ah ((ah ((ah (aU + 1)) + 1)) + 1)), .int .i64 (ah ((ah ((ah ((ah (aU + 1)) + 1)) + 1)) + 1)), .str dj, .int .i64 (ah ((ah ((ah ((ah ((ah ((ah (aU + 1)) + 1)) + 1)) + 1)) + 1)) + 1)), .own 1 0 0 aV.aH.ai.length]) (DR.lt d10 da) aP aP dR rfl rfl rfl rfl) (.d ⟨rfl, DR.bd d10 da, _, No _, ?_⟩))⟩⟩⟩⟩))⟩⟩⟩⟩)
 refine ⟨rfl, ⟨rfl, ⟨rfl, _, aP, ?_⟩⟩⟩
 obtain ⟨⟨v28, KU⟩, Tx, h⟩ := bd h
 refine zf (zg (g1000 := 0) Tx d22) [1] ⟨(KT d22), ⟨⟩⟩ ?_
 rintro _ _ ⟨f31, d32, rfl, rfl⟩
 refine ⟨.int .i64 v28, [.row g1000 8 a0.length 99 (bw f9 bz.toNat [.str db, .str v24, .bool (((ah ((ah (aU + 1)) + 1)).tmod 3) == 0), .int .i64 (ah ((ah ((ah (aU + 1)) + 1)) + 1)), .int .i64 (ah ((ah ((ah ((ah (aU + 1)) + 1)) + 1)) + 1)), .str dj, .int .i64 (ah ((ah ((ah ((ah ((ah ((ah (aU + 1)) + 1)) + 1)) + 1)) + 1)) + 1)), .own 1 0 0 aV.aH.ai.length]), .row 0 8 aV.aH.ai.length 197 f31], rfl, (by simp only [mU, fQ, aeg, aem, List.drop, aea, aec, J6, red d32, red d22]; rfl), (.ab 0 bz.toNat 7 1 (fun MG => [.row g1000 8 a0.length 99 (bw f9 bz.toNat [.str db, .str v24, .bool (((ah ((ah (aU + 1)) + 1)).tmod 3) == 0), .int .i64 (ah ((ah ((ah (aU + 1)) + 1)) + 1)), .int .i64 (ah ((ah ((ah ((ah (aU + 1)) + 1)) + 1)) + 1)), .str dj, .int .i64 (ah ((ah ((ah ((ah ((ah ((ah (aU + 1)) + 1)) + 1)) + 1)) + 1)) + 1)), .aY 8 aV.aH.ai.length 197 f31 MG]), .dead]) (fun MG => uG [.str db, .str v24, .bool (((ah ((ah (aU + 1)) + 1)).tmod 3) == 0), .int .i64 (ah ((ah ((ah (aU + 1)) + 1)) + 1)), .int .i64 (ah ((ah ((ah ((ah (aU + 1)) + 1)) + 1)) + 1)), .str dj, .int .i64 (ah ((ah ((ah ((ah ((ah ((ah (aU + 1)) + 1)) + 1)) + 1)) + 1)) + 1)), .own 1 0 0 aV.aH.ai.length] [.str db, .str v24, .bool (((ah ((ah (aU + 1)) + 1)).tmod 3) == 0), .int .i64 (ah ((ah ((ah (aU + 1)) + 1)) + 1)), .int .i64 (ah ((ah ((ah ((ah (aU + 1)) + 1)) + 1)) + 1)), .str dj, .int .i64 (ah ((ah ((ah ((ah ((ah ((ah (aU + 1)) + 1)) + 1)) + 1)) + 1)) + 1)), .aY 8 aV.aH.ai.length 197 f31 MG] (bw f9 bz.toNat [.str db, .str v24, .bool (((ah ((ah (aU + 1)) + 1)).tmod 3) == 0), .int .i64 (ah ((ah ((ah (aU + 1)) + 1)) + 1)), .int .i64 (ah ((ah ((ah ((ah (aU + 1)) + 1)) + 1)) + 1)), .str dj, .int .i64 (ah ((ah ((ah ((ah ((ah ((ah (aU + 1)) + 1)) + 1)) + 1)) + 1)) + 1)), .aY 8 aV.aH.ai.length 197 f31 MG]) (DR.lt d10 da) aP aP dR (d32).po rfl rfl rfl rfl agj rfl) fun MG => ?_)⟩
 have d34 : DR aB.D a0.length (bw f9 bz.toNat [.str db, .str v24, .bool (((ah ((ah (aU + 1)) + 1)).tmod 3) == 0), .int .i64 (ah ((ah ((ah (aU + 1)) + 1)) + 1)), .int .i64 (ah ((ah ((ah ((ah (aU + 1)) + 1)) + 1)) + 1)), .str dj, .int .i64 (ah ((ah ((ah ((ah ((ah ((ah (aU + 1)) + 1)) + 1)) + 1)) + 1)) + 1)), .aY 8 aV.aH.ai.length 197 f31 MG]) (l8.set bz.toNat (aB.mk db v24 (((ah ((ah (aU + 1)) + 1)).tmod 3) == 0) (af.mk (ah ((ah ((ah (aU + 1)) + 1)) + 1)) (ah ((ah ((ah ((ah (aU + 1)) + 1)) + 1)) + 1)) dj (ah ((ah ((ah ((ah ((ah ((ah (aU + 1)) + 1)) + 1)) + 1)) + 1)) + 1)) KU))) := DR.set d10 (gY da) (aB.vi (x := (aB.mk db v24 (((ah ((ah (aU + 1)) + 1)).tmod 3) == 0) (af.mk (ah ((ah ((ah (aU + 1)) + 1)) + 1)) (ah ((ah ((ah ((ah (aU + 1)) + 1)) + 1)) + 1)) dj (ah ((ah ((ah ((ah ((ah ((ah (aU + 1)) + 1)) + 1)) + 1)) + 1)) + 1)) KU))) d32 : aB.D [.str db, .str v24, .bool (((ah ((ah (aU + 1)) + 1)).tmod 3) == 0), .int .i64 (ah ((ah ((ah (aU + 1)) + 1)) + 1)), .int .i64 (ah ((ah ((ah ((ah (aU + 1)) + 1)) + 1)) + 1)), .str dj, .int .i64 (ah ((ah ((ah ((ah ((ah ((ah (aU + 1)) + 1)) + 1)) + 1)) + 1)) + 1)), .aY 8 aV.aH.ai.length 197 f31 MG] (aB.mk db v24 (((ah ((ah (aU + 1)) + 1)).tmod 3) == 0) (af.mk (ah ((ah ((ah (aU + 1)) + 1)) + 1)) (ah ((ah ((ah ((ah (aU + 1)) + 1)) + 1)) + 1)) dj (ah ((ah ((ah ((ah ((ah ((ah (aU + 1)) + 1)) + 1)) + 1)) + 1)) + 1)) KU)))
 exact lg (qE _ _ _ _ h (bw f9 bz.toNat [.str db, .str v24, .bool (((ah ((ah (aU + 1)) + 1)).tmod 3) == 0), .int .i64 (ah ((ah ((ah (aU + 1)) + 1)) + 1)), .int .i64 (ah ((ah ((ah ((ah (aU + 1)) + 1)) + 1)) + 1)), .str dj, .int .i64 (ah ((ah ((ah ((ah ((ah ((ah (aU + 1)) + 1)) + 1)) + 1)) + 1)) + 1)), .aY 8 aV.aH.ai.length 197 f31 MG]) d34 rfl) (tk [0] ⟨(.od (by first | rfl | exact d34.len | exact d34.len.symm)), .i, .i, ⟨⟩⟩ ⟨(sw d34), ⟨⟩⟩)
 exact afR
 rintro _ _ ⟨y1, l2, f3, d4, rfl, rfl, rfl⟩
 replace h := vU
 refine .d ?_
 exact afz
def fI (a0 : List aw) (l8 : List aw) (aU : Int) (bz : Int) : Option (Int × (List aw)) :=
 (if bz < (a0.length : Int) then
 aQ aU >>= fun db =>
 idx l8 bz >>= fun aV =>
 aQ (ah (aU + 1)) >>= fun kY =>
 ki aV.aA (ah ((ah (aU + 1)) + 1)) >>= fun (uL, v28) =>
 jC aV.av uL >>= fun (Qb, J7) =>
 fI a0 (l8.set bz.toNat (aw.mk db kY v28 J7)) Qb (ah (bz + 1))
 else
 some (aU, l8))
partial_fixpoint
def kj (a0 : List aw) (a1 : Int) : Option (Int × (List aw)) :=
 (
 fI a0 a0 a1 0
 : Option (Int × (List aw))) >>= fun (y1, l2) =>
 some (y1, l2)
theorem zi {a0 : List aw} {a1 : Int} {r : Int × (List aw)} {g1000 : Nat} {bL : Nat} {dJ : Nat → List PV} (h : kj a0 a1 = some r) (ca : DR aw.D bL dJ a0) : ACall Tryz.prog 32 [.own 0 g1000 0 bL, .int .i64 a1] [.row g1000 4 bL 68 dJ] (fun res h => ∃ F0 : Nat → List PV, DR aw.D bL F0 r.2 ∧ res = .int .i64 r.1 ∧ h = [.row g1000 4 bL 68 F0]) := by
 obtain rfl := ca.len
 refine cP Tryz.func32 ?_
 unfold kj at h
 refine .d ?_
 obtain ⟨o5, xD, vU⟩ := bd h
 replace h := xD
 refine .cut (fun σ η => ∃ y1, ∃ l2, ∃ f3 : Nat → List PV, DR aw.D a0.length f3 l2 ∧ (y1, l2) = o5 ∧ σ = [(1, .int .i64 y1)] ∧ η = [.row g1000 4 a0.length 68 f3]) ?_ ?_
 refine .d ?_
 refine le (fI.partial_correctness a0 (motive := fun l8 aU bz Ik => ∀ f9 : Nat → List PV, DR aw.D a0.length f9 l8 → o5 = Ik → az _ _ [(0, .own 0 g1000 0 a0.length), (1, .int .i64 aU), (5, .int .i64 bz)] [.row g1000 4 a0.length 68 f9]) ?_ a0 a1 0 o5 h dJ ca rfl) (tk [0] ⟨(.od agq), .i, .i, ⟨⟩⟩ ⟨(sw ca), ⟨⟩⟩)
 intro RQ qE l8 aU bz Ik h f9 d10 Ty
 subst Ty
 refine az.round (.d (.d ⟨rfl, (sD h (fun dI h => ?_) (fun dI h => ?_))⟩))
 refine .d (.d (bk h fun db rL h => (bO (cj rL) (bk h fun aV da h => ?_))))
 obtain ⟨Ij, f21, xz, e24, d22⟩ := aw.ta (DR.idx d10 da)
 refine ⟨rfl, DR.bd d10 da, _, No _, ⟨rfl, ⟨rfl, _, (bw f9 bz.toNat [.str db, .str aV.bD, .aY 8 aV.aA.length 99 f21 Ij, .aY 5 aV.av.length 106 (row ax.cells aV.av) xz]), e24, mT ⟨.same _, .same _, .same _, .same _, trivial⟩, (.d (.d (bk h fun kY D7 h => (bO (cj D7) ⟨rfl, DR.bd d10 da, _, No _, ⟨rfl, ⟨rfl, _, (bw f9 bz.toNat [.str db, .str kY, .aY 8 aV.aA.length 99 f21 Ij, .aY 5 aV.av.length 106 (row ax.cells aV.av) xz]), aP, dZ ⟨.same _, .same _, .same _, .same _, trivial⟩, (.d (.ex [.row g1000 4 a0.length 68 (bw f9 bz.toNat [.str db, .str kY, .own 1 0 0 aV.aA.length, .aY 5 aV.av.length 106 (row ax.cells aV.av) xz]), .row 0 8 aV.aA.length 99 f21] (RS 0 2 [.str db, .str kY, .aY 8 aV.aA.length 99 f21 Ij, .aY 5 aV.av.length 106 (row ax.cells aV.av) xz] [.str db, .str kY, .own 1 0 0 aV.aA.length, .aY 5 aV.av.length 106 (row ax.cells aV.av) xz] (bw f9 bz.toNat [.str db, .str kY, .own 1 0 0 aV.aA.length, .aY 5 aV.av.length 106 (row ax.cells aV.av) xz]) (DR.lt d10 da) aP aP dR rfl rfl rfl rfl) (.ex [.row g1000 4 a0.length 68 (bw f9 bz.toNat [.str db, .str kY, .own 1 0 0 aV.aA.length, .own 2 0 0 aV.av.length]), .row 0 8 aV.aA.length 99 f21, .row 0 5 aV.av.length 106 (row ax.cells aV.av)] (RS 0 3 [.str db, .str kY, .own 1 0 0 aV.aA.length, .aY 5 aV.av.length 106 (row ax.cells aV.av) xz] [.str db, .str kY, .own 1 0 0 aV.aA.length, .own 2 0 0 aV.av.length] (bw f9 bz.toNat [.str db, .str kY, .own 1 0 0 aV.aA.length, .own 2 0 0 aV.av.length]) (DR.lt d10 da) aP aP dR rfl rfl rfl rfl) (.d ⟨rfl, DR.bd d10 da, _, No _, ?_⟩))))⟩⟩⟩))))⟩⟩⟩
 refine ⟨rfl, ⟨rfl, _, aP, ?_⟩⟩
 obtain ⟨⟨uL, v28⟩, DM, h⟩ := bd h
 refine zf (zh (g1000 := 0) DM d22) [1] ⟨(KT d22), ⟨⟩⟩ ?_
 rintro _ _ ⟨f30, d31, rfl, rfl⟩
 refine ⟨.int .i64 uL, [.row g1000 4 a0.length 68 (bw f9 bz.toNat [.str db, .str kY, .own 1 0 0 aV.aA.length, .own 2 0 0 aV.av.length]), .row 0 8 aV.aA.length 99 f30, .row 0 5 aV.av.length 106 (row ax.cells aV.av)], rfl, (by simp only [mU, fQ, aeg, aem, List.drop, aea, aec, J6, red d31, red d22]; rfl), ⟨rfl, DR.bd d10 da, _, No _, ⟨rfl, ⟨rfl, _, aP, ?_⟩⟩⟩⟩
 obtain ⟨⟨Qb, J7⟩, Tz, h⟩ := bd h
 refine zf (xF (g1000 := 0) Tz DR.rM) [2] ⟨(KT DR.rM), ⟨⟩⟩ ?_
 rintro _ _ ⟨f35, d36, rfl, rfl⟩
 refine ⟨.int .i64 Qb, [.row g1000 4 a0.length 68 (bw f9 bz.toNat [.str db, .str kY, .own 1 0 0 aV.aA.length, .own 2 0 0 aV.av.length]), .row 0 8 aV.aA.length 99 f30, .row 0 5 aV.av.length 106 f35], rfl, (by simp only [mU, fQ, aeg, aem, List.drop, aea, aec, J6, red d36, red DR.rM]; rfl), (.ab 0 bz.toNat 2 1 (fun L4 => [.row g1000 4 a0.length 68 (bw f9 bz.toNat [.str db, .str kY, .aY 8 aV.aA.length 99 f30 L4, .own 2 0 0 aV.av.length]), .dead, .row 0 5 aV.av.length 106 f35]) (fun L4 => uG [.str db, .str kY, .own 1 0 0 aV.aA.length, .own 2 0 0 aV.av.length] [.str db, .str kY, .aY 8 aV.aA.length 99 f30 L4, .own 2 0 0 aV.av.length] (bw f9 bz.toNat [.str db, .str kY, .aY 8 aV.aA.length 99 f30 L4, .own 2 0 0 aV.av.length]) (DR.lt d10 da) aP aP dR (d31).po rfl rfl rfl rfl agj rfl) fun L4 => ?_)⟩
 obtain rfl := DR.Xv d36
 refine .ab 0 bz.toNat 3 2 (fun PH => [.row g1000 4 a0.length 68 (bw f9 bz.toNat [.str db, .str kY, .aY 8 aV.aA.length 99 f30 L4, .aY 5 aV.av.length 106 (row ax.cells J7) PH]), .dead, .dead]) (fun PH => uG [.str db, .str kY, .aY 8 aV.aA.length 99 f30 L4, .own 2 0 0 aV.av.length] [.str db, .str kY, .aY 8 aV.aA.length 99 f30 L4, .aY 5 aV.av.length 106 (row ax.cells J7) PH] (bw f9 bz.toNat [.str db, .str kY, .aY 8 aV.aA.length 99 f30 L4, .aY 5 aV.av.length 106 (row ax.cells J7) PH]) (DR.lt d10 da) aP aP dR (d36).po rfl rfl rfl rfl agj rfl) fun PH => ?_
 have d39 : DR aw.D a0.length (bw f9 bz.toNat [.str db, .str kY, .aY 8 aV.aA.length 99 f30 L4, .aY 5 aV.av.length 106 (row ax.cells J7) PH]) (l8.set bz.toNat (aw.mk db kY v28 J7)) := DR.set d10 (gY da) (aw.vi (x := (aw.mk db kY v28 J7)) d31 d36.len : aw.D [.str db, .str kY, .aY 8 aV.aA.length 99 f30 L4, .aY 5 aV.av.length 106 (row ax.cells J7) PH] (aw.mk db kY v28 J7))
 exact lg (qE _ _ _ _ h (bw f9 bz.toNat [.str db, .str kY, .aY 8 aV.aA.length 99 f30 L4, .aY 5 aV.av.length 106 (row ax.cells J7) PH]) d39 rfl) (tk [0] ⟨(.od (by first | rfl | exact d39.len | exact d39.len.symm)), .i, .i, ⟨⟩⟩ ⟨(sw d39), ⟨⟩⟩)
 exact afR
 rintro _ _ ⟨y1, l2, f3, d4, rfl, rfl, rfl⟩
 replace h := vU
 refine .d ?_
 exact afz
def gL (a0 : List aC) (l8 : List aC) (aU : Int) (bz : Int) : Option (Int × (List aC)) :=
 (if bz < (a0.length : Int) then
 aQ aU >>= fun db =>
 idx l8 bz >>= fun aV =>
 ji aV.ak (ah (aU + 1)) >>= fun (kY, dj) =>
 ji aV.aE kY >>= fun (v30, v31) =>
 jB aV.ar v30 >>= fun (qi, Fy) =>
 mj aV.aq (ah (qi + 1)) >>= fun (v40, zJ) =>
 gL a0 (l8.set bz.toNat (aC.mk db dj v31 Fy ((qi.tmod 3) == 0) zJ)) v40 (ah (bz + 1))
 else
 some (aU, l8))
partial_fixpoint
def lh (a0 : List aC) (a1 : Int) : Option (Int × (List aC)) :=
 (
 gL a0 a0 a1 0
 : Option (Int × (List aC))) >>= fun (y1, l2) =>
 some (y1, l2)
theorem Aq {a0 : List aC} {a1 : Int} {r : Int × (List aC)} {g1000 : Nat} {bL : Nat} {dJ : Nat → List PV} (h : lh a0 a1 = some r) (ca : DR aC.D bL dJ a0) : ACall Tryz.prog 31 [.own 0 g1000 0 bL, .int .i64 a1] [.row g1000 6 bL 57 dJ] (fun res h => ∃ F0 : Nat → List PV, DR aC.D bL F0 r.2 ∧ res = .int .i64 r.1 ∧ h = [.row g1000 6 bL 57 F0]) := by
 obtain rfl := ca.len
 refine cP Tryz.func31 ?_
 unfold lh at h
 refine .d ?_
 obtain ⟨o5, xD, vU⟩ := bd h
 replace h := xD
 refine .cut (fun σ η => ∃ y1, ∃ l2, ∃ f3 : Nat → List PV, DR aC.D a0.length f3 l2 ∧ (y1, l2) = o5 ∧ σ = [(1, .int .i64 y1)] ∧ η = [.row g1000 6 a0.length 57 f3]) ?_ ?_
 refine .d ?_
 refine le (gL.partial_correctness a0 (motive := fun l8 aU bz Qe => ∀ f9 : Nat → List PV, DR aC.D a0.length f9 l8 → o5 = Qe → az _ _ [(0, .own 0 g1000 0 a0.length), (1, .int .i64 aU), (5, .int .i64 bz)] [.row g1000 6 a0.length 57 f9]) ?_ a0 a1 0 o5 h dJ ca rfl) (tk [0] ⟨(.od agq), .i, .i, ⟨⟩⟩ ⟨(sw ca), ⟨⟩⟩)
 intro RQ qE l8 aU bz Qe h f9 d10 TA
 subst TA
 refine az.round (.d (.d ⟨rfl, (sD h (fun dI h => ?_) (fun dI h => ?_))⟩))
 refine .d (.d (bk h fun db rL h => (bO (cj rL) (bk h fun aV da h => ?_))))
 obtain ⟨Ij, RT, KV, xz, e24⟩ := aC.ta (DR.idx d10 da)
 refine ⟨rfl, DR.bd d10 da, _, No _, ⟨rfl, ⟨rfl, _, (bw f9 bz.toNat [.str db, .aY 2 aV.ak.length 61 (row TParam.cells aV.ak) Ij, .aY 2 aV.aE.length 61 (row TParam.cells aV.aE) RT, .aY 1 aV.ar.length 9 (row cS aV.ar) KV, .bool aV.dk, .aY 5 aV.aq.length 64 (row aR.cells aV.aq) xz]), e24, mT ⟨.same _, .same _, .same _, .same _, .same _, .same _, trivial⟩, (.d (.ex [.row g1000 6 a0.length 57 (bw f9 bz.toNat [.str db, .own 1 0 0 aV.ak.length, .aY 2 aV.aE.length 61 (row TParam.cells aV.aE) RT, .aY 1 aV.ar.length 9 (row cS aV.ar) KV, .bool aV.dk, .aY 5 aV.aq.length 64 (row aR.cells aV.aq) xz]), .row 0 2 aV.ak.length 61 (row TParam.cells aV.ak)] (RS 0 1 [.str db, .aY 2 aV.ak.length 61 (row TParam.cells aV.ak) Ij, .aY 2 aV.aE.length 61 (row TParam.cells aV.aE) RT, .aY 1 aV.ar.length 9 (row cS aV.ar) KV, .bool aV.dk, .aY 5 aV.aq.length 64 (row aR.cells aV.aq) xz] [.str db, .own 1 0 0 aV.ak.length, .aY 2 aV.aE.length 61 (row TParam.cells aV.aE) RT, .aY 1 aV.ar.length 9 (row cS aV.ar) KV, .bool aV.dk, .aY 5 aV.aq.length 64 (row aR.cells aV.aq) xz] (bw f9 bz.toNat [.str db, .own 1 0 0 aV.ak.length, .aY 2 aV.aE.length 61 (row TParam.cells aV.aE) RT, .aY 1 aV.ar.length 9 (row cS aV.ar) KV, .bool aV.dk, .aY 5 aV.aq.length 64 (row aR.cells aV.aq) xz]) (DR.lt d10 da) aP aP dR rfl rfl rfl rfl) (.d ⟨rfl, DR.bd d10 da, _, No _, ⟨rfl, ⟨rfl, _, aP, ?_⟩⟩⟩)))⟩⟩⟩
 obtain ⟨⟨kY, dj⟩, DV, h⟩ := bd h
 refine zf (su (g1000 := 0) DV DR.rM) [1] ⟨(KT DR.rM), ⟨⟩⟩ ?_
 rintro _ _ ⟨f28, d29, rfl, rfl⟩
 refine ⟨.int .i64 kY, [.row g1000 6 a0.length 57 (bw f9 bz.toNat [.str db, .own 1 0 0 aV.ak.length, .aY 2 aV.aE.length 61 (row TParam.cells aV.aE) RT, .aY 1 aV.ar.length 9 (row cS aV.ar) KV, .bool aV.dk, .aY 5 aV.aq.length 64 (row aR.cells aV.aq) xz]), .row 0 2 aV.ak.length 61 f28], rfl, (by simp only [mU, fQ, aeg, aem, List.drop, aea, aec, J6, red d29, red DR.rM]; rfl), (.ex [.row g1000 6 a0.length 57 (bw f9 bz.toNat [.str db, .own 1 0 0 aV.ak.length, .own 2 0 0 aV.aE.length, .aY 1 aV.ar.length 9 (row cS aV.ar) KV, .bool aV.dk, .aY 5 aV.aq.length 64 (row aR.cells aV.aq) xz]), .row 0 2 aV.ak.length 61 f28, .row 0 2 aV.aE.length 61 (row TParam.cells aV.aE)] (RS 0 2 [.str db, .own 1 0 0 aV.ak.length, .aY 2 aV.aE.length 61 (row TParam.cells aV.aE) RT, .aY 1 aV.ar.length 9 (row cS aV.ar) KV, .bool aV.dk, .aY 5 aV.aq.length 64 (row aR.cells aV.aq) xz] [.str db, .own 1 0 0 aV.ak.length, .own 2 0 0 aV.aE.length, .aY 1 aV.ar.length 9 (row cS aV.ar) KV, .bool aV.dk, .aY 5 aV.aq.length 64 (row aR.cells aV.aq) xz] (bw f9 bz.toNat [.str db, .own 1 0 0 aV.ak.length, .own 2 0 0 aV.aE.length, .aY 1 aV.ar.length 9 (row cS aV.ar) KV, .bool aV.dk, .aY 5 aV.aq.length 64 (row aR.cells aV.aq) xz]) (DR.lt d10 da) aP aP dR rfl rfl rfl rfl) (.d ⟨rfl, DR.bd d10 da, _, No _, ⟨rfl, ⟨rfl, _, aP, ?_⟩⟩⟩))⟩
 obtain ⟨⟨v30, v31⟩, DN, h⟩ := bd h
 refine zf (su (g1000 := 0) DN DR.rM) [2] ⟨(KT DR.rM), ⟨⟩⟩ ?_
 rintro _ _ ⟨f33, d34, rfl, rfl⟩
 refine ⟨.int .i64 v30, [.row g1000 6 a0.length 57 (bw f9 bz.toNat [.str db, .own 1 0 0 aV.ak.length, .own 2 0 0 aV.aE.length, .aY 1 aV.ar.length 9 (row cS aV.ar) KV, .bool aV.dk, .aY 5 aV.aq.length 64 (row aR.cells aV.aq) xz]), .row 0 2 aV.ak.length 61 f28, .row 0 2 aV.aE.length 61 f33], rfl, (by simp only [mU, fQ, aeg, aem, List.drop, aea, aec, J6, red d34, red DR.rM]; rfl), (.ex [.row g1000 6 a0.length 57 (bw f9 bz.toNat [.str db, .own 1 0 0 aV.ak.length, .own 2 0 0 aV.aE.length, .own 3 0 0 aV.ar.length, .bool aV.dk, .aY 5 aV.aq.length 64 (row aR.cells aV.aq) xz]), .row 0 2 aV.ak.length 61 f28, .row 0 2 aV.aE.length 61 f33, .row 0 1 aV.ar.length 9 (row cS aV.ar)] (RS 0 3 [.str db, .own 1 0 0 aV.ak.length, .own 2 0 0 aV.aE.length, .aY 1 aV.ar.length 9 (row cS aV.ar) KV, .bool aV.dk, .aY 5 aV.aq.length 64 (row aR.cells aV.aq) xz] [.str db, .own 1 0 0 aV.ak.length, .own 2 0 0 aV.aE.length, .own 3 0 0 aV.ar.length, .bool aV.dk, .aY 5 aV.aq.length 64 (row aR.cells aV.aq) xz] (bw f9 bz.toNat [.str db, .own 1 0 0 aV.ak.length, .own 2 0 0 aV.aE.length, .own 3 0 0 aV.ar.length, .bool aV.dk, .aY 5 aV.aq.length 64 (row aR.cells aV.aq) xz]) (DR.lt d10 da) aP aP dR rfl rfl rfl rfl) (.d ⟨rfl, DR.bd d10 da, _, No _, ⟨rfl, ⟨rfl, _, aP, ?_⟩⟩⟩))⟩
 obtain ⟨⟨qi, Fy⟩, TB, h⟩ := bd h
 refine zf (xE (g1000 := 0) TB DR.rM) [3] ⟨(KT DR.rM), ⟨⟩⟩ ?_
 rintro _ _ ⟨f38, d39, rfl, rfl⟩
 refine ⟨.int .i64 qi, [.row g1000 6 a0.length 57 (bw f9 bz.toNat [.str db, .own 1 0 0 aV.ak.length, .own 2 0 0 aV.aE.length, .own 3 0 0 aV.ar.length, .bool aV.dk, .aY 5 aV.aq.length 64 (row aR.cells aV.aq) xz]), .row 0 2 aV.ak.length 61 f28, .row 0 2 aV.aE.length 61 f33, .row 0 1 aV.ar.length 9 f38], rfl, (by simp only [mU, fQ, aeg, aem, List.drop, aea, aec, J6, red d39, red DR.rM]; rfl), (.d ⟨by decide, ⟨rfl, DR.bd d10 da, _, No _, ⟨rfl, ⟨rfl, _, (bw f9 bz.toNat [.str db, .own 1 0 0 aV.ak.length, .own 2 0 0 aV.aE.length, .own 3 0 0 aV.ar.length, .bool ((qi.tmod 3) == 0), .aY 5 aV.aq.length 64 (row aR.cells aV.aq) xz]), aP, dZ ⟨.same _, .same _, .same _, .same _, .same _, .same _, trivial⟩, (.ex [.row g1000 6 a0.length 57 (bw f9 bz.toNat [.str db, .own 1 0 0 aV.ak.length, .own 2 0 0 aV.aE.length, .own 3 0 0 aV.ar.length, .bool ((qi.tmod 3) == 0), .own 4 0 0 aV.aq.length]), .row 0 2 aV.ak.length 61 f28, .row 0 2 aV.aE.length 61 f33, .row 0 1 aV.ar.length 9 f38, .row 0 5 aV.aq.length 64 (row aR.cells aV.aq)] (RS 0 5 [.str db, .own 1 0 0 aV.ak.length, .own 2 0 0 aV.aE.length, .own 3 0 0 aV.ar.length, .bool ((qi.tmod 3) == 0), .aY 5 aV.aq.length 64 (row aR.cells aV.aq) xz] [.str db, .own 1 0 0 aV.ak.length, .own 2 0 0 aV.aE.length, .own 3 0 0 aV.ar.length, .bool ((qi.tmod 3) == 0), .own 4 0 0 aV.aq.length] (bw f9 bz.toNat [.str db, .own 1 0 0 aV.ak.length, .own 2 0 0 aV.aE.length, .own 3 0 0 aV.ar.length, .bool ((qi.tmod 3) == 0), .own 4 0 0 aV.aq.length]) (DR.lt d10 da) aP aP dR rfl rfl rfl rfl) (.d ⟨rfl, DR.bd d10 da, _, No _, ⟨rfl, ⟨rfl, _, aP, ?_⟩⟩⟩))⟩⟩⟩⟩)⟩
 obtain ⟨⟨v40, zJ⟩, Il, h⟩ := bd h
 refine zf (Ck (g1000 := 0) Il DR.rM) [4] ⟨(KT DR.rM), ⟨⟩⟩ ?_
 rintro _ _ ⟨f43, d44, rfl, rfl⟩
 refine ⟨.int .i64 v40, [.row g1000 6 a0.length 57 (bw f9 bz.toNat [.str db, .own 1 0 0 aV.ak.length, .own 2 0 0 aV.aE.length, .own 3 0 0 aV.ar.length, .bool ((qi.tmod 3) == 0), .own 4 0 0 aV.aq.length]), .row 0 2 aV.ak.length 61 f28, .row 0 2 aV.aE.length 61 f33, .row 0 1 aV.ar.length 9 f38, .row 0 5 aV.aq.length 64 f43], rfl, (by simp only [mU, fQ, aeg, aem, List.drop, aea, aec, J6, red d44, red DR.rM]; rfl), ?_⟩
 obtain rfl := DR.Xv d29
 refine .ab 0 bz.toNat 1 1 (fun CU => [.row g1000 6 a0.length 57 (bw f9 bz.toNat [.str db, .aY 2 aV.ak.length 61 (row TParam.cells dj) CU, .own 2 0 0 aV.aE.length, .own 3 0 0 aV.ar.length, .bool ((qi.tmod 3) == 0), .own 4 0 0 aV.aq.length]), .dead, .row 0 2 aV.aE.length 61 f33, .row 0 1 aV.ar.length 9 f38, .row 0 5 aV.aq.length 64 f43]) (fun CU => uG [.str db, .own 1 0 0 aV.ak.length, .own 2 0 0 aV.aE.length, .own 3 0 0 aV.ar.length, .bool ((qi.tmod 3) == 0), .own 4 0 0 aV.aq.length] [.str db, .aY 2 aV.ak.length 61 (row TParam.cells dj) CU, .own 2 0 0 aV.aE.length, .own 3 0 0 aV.ar.length, .bool ((qi.tmod 3) == 0), .own 4 0 0 aV.aq.length] (bw f9 bz.toNat [.str db, .aY 2 aV.ak.length 61 (row TParam.cells dj) CU, .own 2 0 0 aV.aE.length, .own 3 0 0 aV.ar.length, .bool ((qi.tmod 3) == 0), .own 4 0 0 aV.aq.length]) (DR.lt d10 da) aP aP dR (d29).po rfl rfl rfl rfl agj rfl) fun CU => ?_
 obtain rfl := DR.Xv d34
 refine .ab 0 bz.toNat 2 2 (fun FA => [.row g1000 6 a0.length 57 (bw f9 bz.toNat [.str db, .aY 2 aV.ak.length 61 (row TParam.cells dj) CU, .aY 2 aV.aE.length 61 (row TParam.cells v31) FA, .own 3 0 0 aV.ar.length, .bool ((qi.tmod 3) == 0), .own 4 0 0 aV.aq.length]), .dead, .dead, .row 0 1 aV.ar.length 9 f38, .row 0 5 aV.aq.length 64 f43]) (fun FA => uG [.str db, .aY 2 aV.ak.length 61 (row TParam.cells dj) CU, .own 2 0 0 aV.aE.length, .own 3 0 0 aV.ar.length, .bool ((qi.tmod 3) == 0), .own 4 0 0 aV.aq.length] [.str db, .aY 2 aV.ak.length 61 (row TParam.cells dj) CU, .aY 2 aV.aE.length 61 (row TParam.cells v31) FA, .own 3 0 0 aV.ar.length, .bool ((qi.tmod 3) == 0), .own 4 0 0 aV.aq.length] (bw f9 bz.toNat [.str db, .aY 2 aV.ak.length 61 (row TParam.cells dj) CU, .aY 2 aV.aE.length 61 (row TParam.cells v31) FA, .own 3 0 0 aV.ar.length, .bool ((qi.tmod 3) == 0), .own 4 0 0 aV.aq.length]) (DR.lt d10 da) aP aP dR (d34).po rfl rfl rfl rfl agj rfl) fun FA => ?_
 obtain rfl := DR.Xv d39
 refine .ab 0 bz.toNat 3 3 (fun KW => [.row g1000 6 a0.length 57 (bw f9 bz.toNat [.str db, .aY 2 aV.ak.length 61 (row TParam.cells dj) CU, .aY 2 aV.aE.length 61 (row TParam.cells v31) FA, .aY 1 aV.ar.length 9 (row cS Fy) KW, .bool ((qi.tmod 3) == 0), .own 4 0 0 aV.aq.length]), .dead, .dead, .dead, .row 0 5 aV.aq.length 64 f43]) (fun KW => uG [.str db, .aY 2 aV.ak.length 61 (row TParam.cells dj) CU, .aY 2 aV.aE.length 61 (row TParam.cells v31) FA, .own 3 0 0 aV.ar.length, .bool ((qi.tmod 3) == 0), .own 4 0 0 aV.aq.length] [.str db, .aY 2 aV.ak.length 61 (row TParam.cells dj) CU, .aY 2 aV.aE.length 61 (row TParam.cells v31) FA, .aY 1 aV.ar.length 9 (row cS Fy) KW, .bool ((qi.tmod 3) == 0), .own 4 0 0 aV.aq.length] (bw f9 bz.toNat [.str db, .aY 2 aV.ak.length 61 (row TParam.cells dj) CU, .aY 2 aV.aE.length 61 (row TParam.cells v31) FA, .aY 1 aV.ar.length 9 (row cS Fy) KW, .bool ((qi.tmod 3) == 0), .own 4 0 0 aV.aq.length]) (DR.lt d10 da) aP aP dR (d39).po rfl rfl rfl rfl agj rfl) fun KW => ?_
 obtain rfl := DR.Xv d44
 refine .ab 0 bz.toNat 5 4 (fun Qf => [.row g1000 6 a0.length 57 (bw f9 bz.toNat [.str db, .aY 2 aV.ak.length 61 (row TParam.cells dj) CU, .aY 2 aV.aE.length 61 (row TParam.cells v31) FA, .aY 1 aV.ar.length 9 (row cS Fy) KW, .bool ((qi.tmod 3) == 0), .aY 5 aV.aq.length 64 (row aR.cells zJ) Qf]), .dead, .dead, .dead, .dead]) (fun Qf => uG [.str db, .aY 2 aV.ak.length 61 (row TParam.cells dj) CU, .aY 2 aV.aE.length 61 (row TParam.cells v31) FA, .aY 1 aV.ar.length 9 (row cS Fy) KW, .bool ((qi.tmod 3) == 0), .own 4 0 0 aV.aq.length] [.str db, .aY 2 aV.ak.length 61 (row TParam.cells dj) CU, .aY 2 aV.aE.length 61 (row TParam.cells v31) FA, .aY 1 aV.ar.length 9 (row cS Fy) KW, .bool ((qi.tmod 3) == 0), .aY 5 aV.aq.length 64 (row aR.cells zJ) Qf] (bw f9 bz.toNat [.str db, .aY 2 aV.ak.length 61 (row TParam.cells dj) CU, .aY 2 aV.aE.length 61 (row TParam.cells v31) FA, .aY 1 aV.ar.length 9 (row cS Fy) KW, .bool ((qi.tmod 3) == 0), .aY 5 aV.aq.length 64 (row aR.cells zJ) Qf]) (DR.lt d10 da) aP aP dR (d44).po rfl rfl rfl rfl agj rfl) fun Qf => ?_
 have d49 : DR aC.D a0.length (bw f9 bz.toNat [.str db, .aY 2 aV.ak.length 61 (row TParam.cells dj) CU, .aY 2 aV.aE.length 61 (row TParam.cells v31) FA, .aY 1 aV.ar.length 9 (row cS Fy) KW, .bool ((qi.tmod 3) == 0), .aY 5 aV.aq.length 64 (row aR.cells zJ) Qf]) (l8.set bz.toNat (aC.mk db dj v31 Fy ((qi.tmod 3) == 0) zJ)) := DR.set d10 (gY da) (aC.vi (x := (aC.mk db dj v31 Fy ((qi.tmod 3) == 0) zJ)) d29.len d34.len d39.len d44.len : aC.D [.str db, .aY 2 aV.ak.length 61 (row TParam.cells dj) CU, .aY 2 aV.aE.length 61 (row TParam.cells v31) FA, .aY 1 aV.ar.length 9 (row cS Fy) KW, .bool ((qi.tmod 3) == 0), .aY 5 aV.aq.length 64 (row aR.cells zJ) Qf] (aC.mk db dj v31 Fy ((qi.tmod 3) == 0) zJ))
 exact lg (qE _ _ _ _ h (bw f9 bz.toNat [.str db, .aY 2 aV.ak.length 61 (row TParam.cells dj) CU, .aY 2 aV.aE.length 61 (row TParam.cells v31) FA, .aY 1 aV.ar.length 9 (row cS Fy) KW, .bool ((qi.tmod 3) == 0), .aY 5 aV.aq.length 64 (row aR.cells zJ) Qf]) d49 rfl) (tk [0] ⟨(.od (by first | rfl | exact d49.len | exact d49.len.symm)), .i, .i, ⟨⟩⟩ ⟨(sw d49), ⟨⟩⟩)
 exact afR
 rintro _ _ ⟨y1, l2, f3, d4, rfl, rfl, rfl⟩
 replace h := vU
 refine .d ?_
 exact afz
def iF (a0 : aD) (a1 : Int) : Option (Int × aD) :=
 lh a0.aG a1 >>= fun (v1, v2) =>
 kj a0.ay v1 >>= fun (v6, v7) =>
 some (v6, (aD.mk v2 v7))
theorem xG {a0 : aD} {a1 : Int} {r : Int × aD} {g1000 : Nat} {g1001 : Nat} {bL : Nat} {FV : Nat} {dJ : Nat → List PV} {MH : Nat → List PV} (h : iF a0 a1 = some r) (ca : DR aC.D bL dJ a0.aG) (J8 : DR aw.D FV MH a0.ay) : ACall Tryz.prog 11 [.agg [.own 0 g1000 0 bL, .own 1 g1001 0 FV], .int .i64 a1] [.row g1000 6 bL 57 dJ, .row g1001 4 FV 68 MH] (fun res h => ∃ F0 : Nat → List PV, ∃ F1 : Nat → List PV, DR aC.D bL F0 r.2.aG ∧ DR aw.D FV F1 r.2.ay ∧ res = .int .i64 r.1 ∧ h = [.row g1000 6 bL 57 F0, .row g1001 4 FV 68 F1]) := by
 obtain rfl := ca.len
 obtain rfl := J8.len
 refine cP Tryz.func11 ?_
 unfold iF at h
 refine .d (.d ⟨rfl, ⟨rfl, _, rfl, ?_⟩⟩)
 obtain ⟨⟨v1, v2⟩, DI, h⟩ := bd h
 refine zf (Aq (g1000 := g1000) DI ca) [0] ⟨(KT ca), ⟨⟩⟩ ?_
 rintro _ _ ⟨f4, d5, rfl, rfl⟩
 refine ⟨.int .i64 v1, [.row g1000 6 a0.aG.length 57 f4, .row g1001 4 a0.ay.length 68 MH, .row 0 2 1 33 (fun _ => [.own 0 g1000 0 a0.aG.length, .own 1 g1001 0 a0.ay.length])], rfl, (by simp only [mU, fQ, aeg, aem, List.drop, aea, aec, J6, red d5, red ca]; rfl), (.d ⟨rfl, ⟨rfl, _, rfl, ?_⟩⟩)⟩
 obtain ⟨⟨v6, v7⟩, Ib, h⟩ := bd h
 refine zf (zi (g1000 := g1001) Ib J8) [1] ⟨(KT J8), ⟨⟩⟩ ?_
 rintro _ _ ⟨f9, d10, rfl, rfl⟩
 refine ⟨.int .i64 v6, [.row g1000 6 a0.aG.length 57 f4, .row g1001 4 a0.ay.length 68 f9, .row 0 2 1 33 (fun _ => [.own 0 g1000 0 a0.aG.length, .own 1 g1001 0 a0.ay.length])], rfl, (by simp only [mU, fQ, aeg, aem, List.drop, aea, aec, J6, red d10, red J8]; rfl), (.d ?_)⟩
 obtain rfl := si h
 exact en [0, 1] ⟨f4, f9, d5, d10, rfl, rfl⟩ .i ⟨(sw d5), (sw d10), ⟨⟩⟩
set_option maxRecDepth 100000
def iI (a0 : List TParam) (y5 : Int) (y6 : Int) : Option ((Int) ⊕ Int) :=
 (if y6 < (a0.length : Int) then
 idx a0 y6 >>= fun zj =>
 aQ y5 >>= fun v12 =>
 (if zj.ao = v12 then
 idx a0 y6 >>= fun xH =>
 (if xH.vh = (((ah (y5 + 1)).tmod 3) == 0) then
 iI a0 (ah ((ah (y5 + 1)) + 1)) (ah (y6 + 1))
 else
 some (.inr (-1)))
 else
 some (.inr (-1)))
 else
 some (.inl y5))
partial_fixpoint
def ml (a0 : List TParam) (a1 : Int) : Option (Int) :=
 ((
 iI a0 a1 0
 : Option ((Int) ⊕ Int)) >>= fun o2 => match o2 with
 | .inr r => some r
 | .inl y1 =>
 some y1
 )
def hC (a0 : List ba) (y5 : Int) (y6 : Int) : Option ((Int) ⊕ Int) :=
 (if y6 < (a0.length : Int) then
 idx a0 y6 >>= fun zj =>
 aQ y5 >>= fun v12 =>
 (if zj = v12 then
 hC a0 (ah (y5 + 1)) (ah (y6 + 1))
 else
 some (.inr (-1)))
 else
 some (.inl y5))
partial_fixpoint
def n7 (a0 : List ba) (a1 : Int) : Option (Int) :=
 ((
 hC a0 a1 0
 : Option ((Int) ⊕ Int)) >>= fun o2 => match o2 with
 | .inr r => some r
 | .inl y1 =>
 some y1
 )
def jD (a0 : List aR) (y5 : Int) (y6 : Int) : Option ((Int) ⊕ Int) :=
 (if y6 < (a0.length : Int) then
 idx a0 y6 >>= fun zj =>
 (if zj.aW = y5 then
 idx a0 y6 >>= fun sx =>
 (if sx.fA = (ah (y5 + 1)) then
 idx a0 y6 >>= fun ue =>
 (if ue.fB = (ah ((ah (y5 + 1)) + 1)) then
 idx a0 y6 >>= fun Qc =>
 aQ (ah ((ah ((ah (y5 + 1)) + 1)) + 1)) >>= fun v21 =>
 (if Qc.fS = v21 then
 idx a0 y6 >>= fun HT =>
 aQ (ah ((ah ((ah ((ah (y5 + 1)) + 1)) + 1)) + 1)) >>= fun dj =>
 (if HT.fT = dj then
 jD a0 (ah ((ah ((ah ((ah ((ah (y5 + 1)) + 1)) + 1)) + 1)) + 1)) (ah (y6 + 1))
 else
 some (.inr (-1)))
 else
 some (.inr (-1)))
 else
 some (.inr (-1)))
 else
 some (.inr (-1)))
 else
 some (.inr (-1)))
 else
 some (.inl y5))
partial_fixpoint
def rN (a0 : List aR) (a1 : Int) : Option (Int) :=
 ((
 jD a0 a1 0
 : Option ((Int) ⊕ Int)) >>= fun o2 => match o2 with
 | .inr r => some r
 | .inl y1 =>
 some y1
 )
def hI (a0 : List ax) (y5 : Int) (y6 : Int) : Option ((Int) ⊕ Int) :=
 (if y6 < (a0.length : Int) then
 idx a0 y6 >>= fun zj =>
 aQ y5 >>= fun v12 =>
 (if zj.ao = v12 then
 idx a0 y6 >>= fun xH =>
 aQ (ah (y5 + 1)) >>= fun FW =>
 (if xH.bn = FW then
 idx a0 y6 >>= fun Ar =>
 aQ (ah ((ah (y5 + 1)) + 1)) >>= fun vV =>
 (if Ar.fh = vV then
 idx a0 y6 >>= fun KX =>
 (if KX.bc = (((ah ((ah ((ah (y5 + 1)) + 1)) + 1)).tmod 3) == 0) then
 idx a0 y6 >>= fun Xw =>
 (if Xw.fZ = (((ah ((ah ((ah ((ah (y5 + 1)) + 1)) + 1)) + 1)).tmod 3) == 0) then
 hI a0 (ah ((ah ((ah ((ah ((ah (y5 + 1)) + 1)) + 1)) + 1)) + 1)) (ah (y6 + 1))
 else
 some (.inr (-1)))
 else
 some (.inr (-1)))
 else
 some (.inr (-1)))
 else
 some (.inr (-1)))
 else
 some (.inr (-1)))
 else
 some (.inl y5))
partial_fixpoint
def n8 (a0 : List ax) (a1 : Int) : Option (Int) :=
 ((
 hI a0 a1 0
 : Option ((Int) ⊕ Int)) >>= fun o2 => match o2 with
 | .inr r => some r
 | .inl y1 =>
 some y1
 )
def gN (a0 : List UInt8) (y5 : Int) (y6 : Int) : Option ((Int) ⊕ Int) :=
 (if y6 < (a0.length : Int) then
 idx a0 y6 >>= fun c10 =>
 (if (c10.toNat : Int) = (IntKind.u8.wrap (y5)) then
 gN a0 (ah (y5 + 1)) (ah (y6 + 1))
 else
 some (.inr (-1)))
 else
 some (.inl y5))
partial_fixpoint
def iY (a0 : List UInt8) (a1 : Int) : Option (Int) :=
 ((
 gN a0 a1 0
 : Option ((Int) ⊕ Int)) >>= fun o2 => match o2 with
 | .inr r => some r
 | .inl y1 =>
 some y1
 )
theorem tg {a0 : List UInt8} {a1 : Int} {r : Int} (h : iY a0 a1 = some r) : ACall Tryz.prog 13 [sl 1 cB a0, .int .i64 a1] [] (fun res h => res = .int .i64 r ∧ h = []) := by
 refine cP Tryz.func13 ?_
 unfold iY at h
 refine .d ?_
 obtain ⟨o2, qD, nB⟩ := bd h
 replace h := qD
 refine .cut (fun σ η => ∃ y1, .inl y1 = o2 ∧ σ = [(1, .int .i64 y1)] ∧ η = []) ?_ ?_
 refine .d ?_
 refine le (gN.partial_correctness a0 (motive := fun y5 y6 Xs => o2 = Xs → az _ _ [(0, sl 1 cB a0), (1, .int .i64 y5), (5, .int .i64 y6)] []) ?_ a1 0 o2 h rfl) (tk [] ⟨.l, .i, .i, ⟨⟩⟩ ⟨⟩)
 intro F8 L5 y5 y6 Xs h Ts
 subst Ts
 refine az.round (.d (.d (sD h (fun uV h => ?_) (fun uV h => ?_))))
 refine .d (.d (.d (bk h fun c10 FX h => ⟨aI FX, _, (aF FX).trans rfl, (sN h (fun ly h => ?_) (fun ly h => ?_))⟩)))
 refine .d ?_
 obtain rfl := si h
 replace h := nB
 exact eI h
 exact lg (L5 _ _ _ h rfl) (tk [] ⟨.l, .i, .i, ⟨⟩⟩ ⟨⟩)
 exact afQ
 exact aft
mutual
def mm (a0 : List ae) (a1 : Int) : Option (Int) :=
 ((
 fJ a0 a1 0
 : Option ((Int) ⊕ Int)) >>= fun o2 => match o2 with
 | .inr r => some r
 | .inl y1 =>
 some y1
 )
partial_fixpoint
def fJ (a0 : List ae) (y5 : Int) (y6 : Int) : Option ((Int) ⊕ Int) :=
 (if y6 < (a0.length : Int) then
 idx a0 y6 >>= fun kP =>
 (if kP.aX.cr = ((y5.tmod 3) == 0) then
 idx a0 y6 >>= fun CS =>
 (if CS.aX.bb = (ah (y5 + 1)) then
 idx a0 y6 >>= fun kH =>
 aQ (ah ((ah (y5 + 1)) + 1)) >>= fun aZ =>
 (if kH.aX.bm = aZ then
 idx a0 y6 >>= fun gX =>
 (if gX.aL.aJ = (ah ((ah ((ah (y5 + 1)) + 1)) + 1)) then
 idx a0 y6 >>= fun KX =>
 (if KX.aL.bb = (ah ((ah ((ah ((ah (y5 + 1)) + 1)) + 1)) + 1)) then
 idx a0 y6 >>= fun Xw =>
 aQ (ah ((ah ((ah ((ah ((ah (y5 + 1)) + 1)) + 1)) + 1)) + 1)) >>= fun v30 =>
 (if Xw.aL.bm = v30 then
 idx a0 y6 >>= fun MI =>
 (if MI.aL.bs = (ah ((ah ((ah ((ah ((ah ((ah (y5 + 1)) + 1)) + 1)) + 1)) + 1)) + 1)) then
 idx a0 y6 >>= fun x36 =>
 mm x36.aL.ai (ah ((ah ((ah ((ah ((ah ((ah ((ah (y5 + 1)) + 1)) + 1)) + 1)) + 1)) + 1)) + 1)) >>= fun Xx =>
 (if Xx < 0 then
 some (.inr (-1))
 else
 fJ a0 Xx (ah (y6 + 1)))
 else
 some (.inr (-1)))
 else
 some (.inr (-1)))
 else
 some (.inr (-1)))
 else
 some (.inr (-1)))
 else
 some (.inr (-1)))
 else
 some (.inr (-1)))
 else
 some (.inr (-1)))
 else
 some (.inl y5))
partial_fixpoint
end
def TC (a0 : List ae) (a1 : Int) (r : Int) : Prop := ACall Tryz.prog 127 [sl 8 ae.cells a0, .int .i64 a1] [] (fun res h => res = .int .i64 r ∧ h = [])
inductive oe : (List ae) → Int → Int → ((Int) ⊕ Int) → Prop
 | mk (Xy : (List ae) → Int → Option (Int)) (adT : ∀ a0 a1 r, Xy a0 a1 = some r → TC a0 a1 r) (oh : (List ae) → Int → Int → Option ((Int) ⊕ Int)) (FY : ∀ a0 y5 y6 o, oh a0 y5 y6 = some o → oe a0 y5 y6 o) (a0 : List ae) (y5 : Int) (y6 : Int) (o : (Int) ⊕ Int) (h : (
 (if y6 < (a0.length : Int) then
 idx a0 y6 >>= fun kP =>
 (if kP.aX.cr = ((y5.tmod 3) == 0) then
 idx a0 y6 >>= fun CS =>
 (if CS.aX.bb = (ah (y5 + 1)) then
 idx a0 y6 >>= fun kH =>
 aQ (ah ((ah (y5 + 1)) + 1)) >>= fun aZ =>
 (if kH.aX.bm = aZ then
 idx a0 y6 >>= fun gX =>
 (if gX.aL.aJ = (ah ((ah ((ah (y5 + 1)) + 1)) + 1)) then
 idx a0 y6 >>= fun KX =>
 (if KX.aL.bb = (ah ((ah ((ah ((ah (y5 + 1)) + 1)) + 1)) + 1)) then
 idx a0 y6 >>= fun Xw =>
 aQ (ah ((ah ((ah ((ah ((ah (y5 + 1)) + 1)) + 1)) + 1)) + 1)) >>= fun v30 =>
 (if Xw.aL.bm = v30 then
 idx a0 y6 >>= fun MI =>
 (if MI.aL.bs = (ah ((ah ((ah ((ah ((ah ((ah (y5 + 1)) + 1)) + 1)) + 1)) + 1)) + 1)) then
 idx a0 y6 >>= fun x36 =>
 Xy x36.aL.ai (ah ((ah ((ah ((ah ((ah ((ah ((ah (y5 + 1)) + 1)) + 1)) + 1)) + 1)) + 1)) + 1)) >>= fun Xx =>
 (if Xx < 0 then
 some (.inr (-1))
 else
 oh a0 Xx (ah (y6 + 1)))
 else
 some (.inr (-1)))
 else
 some (.inr (-1)))
 else
 some (.inr (-1)))
 else
 some (.inr (-1)))
 else
 some (.inr (-1)))
 else
 some (.inr (-1)))
 else
 some (.inr (-1)))
 else
 some (.inl y5))
 ) = some o) : oe a0 y5 y6 o
def iJ (a0 : List aB) (y5 : Int) (y6 : Int) : Option ((Int) ⊕ Int) :=
 (if y6 < (a0.length : Int) then
 idx a0 y6 >>= fun zj =>
 aQ y5 >>= fun v12 =>
 (if zj.ao = v12 then
 idx a0 y6 >>= fun xH =>
 aQ (ah (y5 + 1)) >>= fun FW =>
 (if xH.bn = FW then
 idx a0 y6 >>= fun Ar =>
 (if Ar.bc = (((ah ((ah (y5 + 1)) + 1)).tmod 3) == 0) then
 idx a0 y6 >>= fun Qa =>
 (if Qa.aH.aJ = (ah ((ah ((ah (y5 + 1)) + 1)) + 1)) then
 idx a0 y6 >>= fun Xz =>
 (if Xz.aH.bb = (ah ((ah ((ah ((ah (y5 + 1)) + 1)) + 1)) + 1)) then
 idx a0 y6 >>= fun x29 =>
 aQ (ah ((ah ((ah ((ah ((ah (y5 + 1)) + 1)) + 1)) + 1)) + 1)) >>= fun v31 =>
 (if x29.aH.bm = v31 then
 idx a0 y6 >>= fun x34 =>
 (if x34.aH.bs = (ah ((ah ((ah ((ah ((ah ((ah (y5 + 1)) + 1)) + 1)) + 1)) + 1)) + 1)) then
 idx a0 y6 >>= fun x37 =>
 mm x37.aH.ai (ah ((ah ((ah ((ah ((ah ((ah ((ah (y5 + 1)) + 1)) + 1)) + 1)) + 1)) + 1)) + 1)) >>= fun L6 =>
 (if L6 < 0 then
 some (.inr (-1))
 else
 iJ a0 L6 (ah (y6 + 1)))
 else
 some (.inr (-1)))
 else
 some (.inr (-1)))
 else
 some (.inr (-1)))
 else
 some (.inr (-1)))
 else
 some (.inr (-1)))
 else
 some (.inr (-1)))
 else
 some (.inr (-1)))
 else
 some (.inl y5))
partial_fixpoint
def oZ (a0 : List aB) (a1 : Int) : Option (Int) :=
 ((
 iJ a0 a1 0
 : Option ((Int) ⊕ Int)) >>= fun o2 => match o2 with
 | .inr r => some r
 | .inl y1 =>
 some y1
 )
def iK (a0 : List aw) (y5 : Int) (y6 : Int) : Option ((Int) ⊕ Int) :=
 (if y6 < (a0.length : Int) then
 idx a0 y6 >>= fun zj =>
 aQ y5 >>= fun v12 =>
 (if zj.ao = v12 then
 idx a0 y6 >>= fun xH =>
 aQ (ah (y5 + 1)) >>= fun FW =>
 (if xH.bD = FW then
 idx a0 y6 >>= fun Ar =>
 oZ Ar.aA (ah ((ah (y5 + 1)) + 1)) >>= fun vV =>
 (if vV < 0 then
 some (.inr (-1))
 else
 idx a0 y6 >>= fun KX =>
 n8 KX.av vV >>= fun uL =>
 (if uL < 0 then
 some (.inr (-1))
 else
 iK a0 uL (ah (y6 + 1))))
 else
 some (.inr (-1)))
 else
 some (.inr (-1)))
 else
 some (.inl y5))
partial_fixpoint
def pc (a0 : List aw) (a1 : Int) : Option (Int) :=
 ((
 iK a0 a1 0
 : Option ((Int) ⊕ Int)) >>= fun o2 => match o2 with
 | .inr r => some r
 | .inl y1 =>
 some y1
 )
def jj (a0 : List aC) (y5 : Int) (y6 : Int) : Option ((Int) ⊕ Int) :=
 (if y6 < (a0.length : Int) then
 idx a0 y6 >>= fun zj =>
 aQ y5 >>= fun v12 =>
 (if zj.ao = v12 then
 idx a0 y6 >>= fun xH =>
 ml xH.ak (ah (y5 + 1)) >>= fun FW =>
 (if FW < 0 then
 some (.inr (-1))
 else
 idx a0 y6 >>= fun Ar =>
 ml Ar.aE FW >>= fun vV =>
 (if vV < 0 then
 some (.inr (-1))
 else
 idx a0 y6 >>= fun KX =>
 n7 KX.ar vV >>= fun uL =>
 (if uL < 0 then
 some (.inr (-1))
 else
 idx a0 y6 >>= fun P7 =>
 (if P7.dk = ((uL.tmod 3) == 0) then
 idx a0 y6 >>= fun MI =>
 rN MI.aq (ah (uL + 1)) >>= fun qi =>
 (if qi < 0 then
 some (.inr (-1))
 else
 jj a0 qi (ah (y6 + 1)))
 else
 some (.inr (-1))))))
 else
 some (.inr (-1)))
 else
 some (.inl y5))
partial_fixpoint
def qG (a0 : List aC) (a1 : Int) : Option (Int) :=
 ((
 jj a0 a1 0
 : Option ((Int) ⊕ Int)) >>= fun o2 => match o2 with
 | .inr r => some r
 | .inl y1 =>
 some y1
 )
def sy (a0 : aD) (a1 : Int) : Option (Int) :=
 qG a0.aG a1 >>= fun v1 =>
 (if v1 < 0 then
 some (-1)
 else
 pc a0.ay v1 >>= fun v4 =>
 (if v4 < 0 then
 some (-1)
 else
 some v4))
def wh (a0 : Int) (a1 : Int) (a2 : Int) : Option (Bool) :=
 (if a0 ≥ a1 then
 some (decide (a0 ≤ a2))
 else
 some false)
theorem qH {a0 : Int} {a1 : Int} {a2 : Int} {r : Bool} (h : wh a0 a1 a2 = some r) : ACall Tryz.prog 91 [.int .i64 a0, .int .i64 a1, .int .i64 a2] [] (fun res h => res = .bool r ∧ h = []) := by
 refine cP Tryz.func91 ?_
 unfold wh at h
 refine .d (.d (sD h (fun de h => ?_) (fun de h => ?_)))
 exact .t (.t (.t (eB h)))
 exact .f (.f (.f (eB h)))
def yx (a0 : Int) (a1 : Int) (a2 : Int) : Option (Bool) :=
 (if a1 ≤ a0 then
 some (decide (a0 ≤ a2))
 else
 some false)
theorem uM {a0 : Int} {a1 : Int} {a2 : Int} {r : Bool} (h : yx a0 a1 a2 = some r) : ACall Tryz.prog 57 [.int .i64 a0, .int .i64 a1, .int .i64 a2] [] (fun res h => res = .bool r ∧ h = []) := by
 refine cP Tryz.func57 ?_
 unfold yx at h
 refine .d (.d (sD h (fun de h => ?_) (fun de h => ?_)))
 exact .t (.t (.t (eB h)))
 exact .f (.f (.f (eB h)))
theorem Au (a0 : Int) : ACall Tryz.prog 172 [.int .i64 a0] [] (fun res h => res = .agg [.int .i64 2, .int .i64 a0, .str [], .int .i64 0, .aO] ∧ h = []) := by
 refine cP Tryz.func172 ?_
 exact .d (.d ⟨rfl, _, fun _ => [.int .i64 2, .int .i64 a0, .str [], .int .i64 0, .aO], rfl, aM rfl, ⟨rfl, _, rfl, (en [] ⟨rfl, rfl⟩ (.jZ ⟨.i, .i, .s, .i, .aO, ⟨⟩⟩) ⟨⟩)⟩⟩)
theorem zk (a0 : ba) : ACall Tryz.prog 174 [.str a0] [] (fun res h => res = .agg [.int .i64 3, .int .i64 0, .str a0, .int .i64 0, .aO] ∧ h = []) := by
 refine cP Tryz.func174 ?_
 exact .d (.d ⟨rfl, _, fun _ => [.int .i64 3, .int .i64 0, .str a0, .int .i64 0, .aO], rfl, aM rfl, ⟨rfl, _, rfl, (en [] ⟨rfl, rfl⟩ (.jZ ⟨.i, .i, .s, .i, .aO, ⟨⟩⟩) ⟨⟩)⟩⟩)
theorem Av (a0 : Int) : ACall Tryz.prog 166 [.int .i64 a0] [] (fun res h => res = .agg [.int .i64 2, .int .i64 a0, .str [], .int .i64 0, .aO] ∧ h = []) := by
 refine cP Tryz.func166 ?_
 exact .d (.d ⟨rfl, _, fun _ => [.int .i64 2, .int .i64 a0, .str [], .int .i64 0, .aO], rfl, aM rfl, ⟨rfl, _, rfl, (en [] ⟨rfl, rfl⟩ (.jZ ⟨.i, .i, .s, .i, .aO, ⟨⟩⟩) ⟨⟩)⟩⟩)
theorem zl (a0 : ba) : ACall Tryz.prog 167 [.str a0] [] (fun res h => res = .agg [.int .i64 3, .int .i64 0, .str a0, .int .i64 0, .aO] ∧ h = []) := by
 refine cP Tryz.func167 ?_
 exact .d (.d ⟨rfl, _, fun _ => [.int .i64 3, .int .i64 0, .str a0, .int .i64 0, .aO], rfl, aM rfl, ⟨rfl, _, rfl, (en [] ⟨rfl, rfl⟩ (.jZ ⟨.i, .i, .s, .i, .aO, ⟨⟩⟩) ⟨⟩)⟩⟩)
def jv (a0 : bJ) : Option (af) :=
 (if a0.cr = true then
 some (af.mk 3 0 a0.bm 0 [])
 else
 some (af.mk 2 a0.bb [] 0 []))
theorem Cl {a0 : bJ} {r : af} (h : jv a0 = some r) : ACall Tryz.prog 160 [.agg a0.lit] [] (fun res h => res = .agg r.lit ∧ h = []) := by
 refine cP Tryz.func160 ?_
 unfold jv at h
 refine .d (.d (.d ⟨rfl, ⟨rfl, _, rfl, (sV h (fun de h => ?_) (fun de h => ?_))⟩⟩))
 refine .d ⟨rfl, ⟨rfl, _, rfl, (bO (zk a0.bm) ⟨rfl, _, fun _ => [.int .i64 3, .int .i64 0, .str a0.bm, .int .i64 0, .aO], rfl, aM rfl, ?_⟩)⟩⟩
 exact afD
 refine .d ⟨rfl, ⟨rfl, _, rfl, (bO (Au a0.bb) ⟨rfl, _, fun _ => [.int .i64 2, .int .i64 a0.bb, .str [], .int .i64 0, .aO], rfl, aM rfl, ?_⟩)⟩⟩
 exact afD
def mo (a0 : bJ) : Option (af) :=
 (if a0.cr = true then
 some (af.mk 3 0 a0.bm 0 [])
 else
 some (af.mk 2 a0.bb [] 0 []))
theorem Cm {a0 : bJ} {r : af} (h : mo a0 = some r) : ACall Tryz.prog 144 [.agg a0.lit] [] (fun res h => res = .agg r.lit ∧ h = []) := by
 refine cP Tryz.func144 ?_
 unfold mo at h
 refine .d (.d (.d ⟨rfl, ⟨rfl, _, rfl, (sV h (fun de h => ?_) (fun de h => ?_))⟩⟩))
 refine .d ⟨rfl, ⟨rfl, _, rfl, (bO (zl a0.bm) ⟨rfl, _, fun _ => [.int .i64 3, .int .i64 0, .str a0.bm, .int .i64 0, .aO], rfl, aM rfl, ?_⟩)⟩⟩
 exact afD
 refine .d ⟨rfl, ⟨rfl, _, rfl, (bO (Av a0.bb) ⟨rfl, _, fun _ => [.int .i64 2, .int .i64 a0.bb, .str [], .int .i64 0, .aO], rfl, aM rfl, ?_⟩)⟩⟩
 exact afD
def vm (a0 : af) (a1 : bJ) (y4 : Int) : Option ((Unit) ⊕ Int) :=
 (if a0.aJ = 4 then
 (if y4 < (a0.ai.length : Int) then
 idx a0.ai y4 >>= fun x9 =>
 (if x9.aX = a1 then
 some (.inr y4)
 else
 vm a0 a1 (ah (y4 + 1)))
 else
 some (.inl ()))
 else
 some (.inl ()))
partial_fixpoint
def PI (a0 : af) (a1 : bJ) : Option (Int) :=
 ((
 vm a0 a1 0
 : Option ((Unit) ⊕ Int)) >>= fun o1 => match o1 with
 | .inr r => some r
 | .inl _ =>
 some (-1)
 )
theorem XA {a0 : af} {a1 : bJ} {r : Int} (h : PI a0 a1 = some r) : ACall Tryz.prog 141 [.agg a0.lit, .agg a1.lit] [] (fun res h => res = .int .i64 r ∧ h = []) := by
 refine cP Tryz.func141 ?_
 unfold PI at h
 refine .d ?_
 obtain ⟨o1, Aw, ow⟩ := bd h
 replace h := Aw
 refine .cut (fun σ η => .inl () = o1 ∧ σ = [] ∧ η = []) ?_ ?_
 refine .d ?_
 refine le (vm.partial_correctness a0 a1 (motive := fun y4 HU => o1 = HU → az _ _ [(2, .aN 0 0 0 0), (3, .aN 1 0 0 0), (5, .int .i64 y4)] [.row 0 5 1 97 (fun _ => a0.lit), .row 0 3 1 195 (fun _ => a1.lit)]) ?_ 0 o1 h rfl) (tk [0, 1] ⟨.p, .p, .i, ⟨⟩⟩ ⟨(bf rfl), (bf rfl), ⟨⟩⟩)
 intro F6 Qg y4 HU h aaY
 subst aaY
 refine az.round (.d (.d ⟨rfl, ⟨rfl, _, rfl, (sE h (fun pT h => ?_) (fun pT h => ?_))⟩⟩))
 refine .t ⟨rfl, (.t ⟨rfl, _, rfl, (.t (.t (.t (sD h (fun nh h => ?_) (fun nh h => ?_)))))⟩)⟩
 refine .d (.d ⟨rfl, ⟨rfl, _, rfl, (bk h fun x9 jA h => ⟨aI jA, _, (aF jA).trans (ae.au x9), ⟨rfl, _, rfl, ⟨_, bJ.nF x9.aX a1, (sD h (fun jU h => ?_) (fun jU h => ?_))⟩⟩⟩)⟩⟩)
 refine .d ?_
 obtain rfl := si h
 replace h := ow
 exact eI h
 exact lg (Qg _ _ h rfl) (tk [0, 1] ⟨.p, .p, .i, ⟨⟩⟩ ⟨(bf rfl), (bf rfl), ⟨⟩⟩)
 exact afN
 exact .f (.f (.f (.f (.f (.f (ct ⟨si h, rfl, rfl⟩ (tk [] ⟨⟩ ⟨⟩)))))))
 exact afx
def mq (a0 : Int) : Option (Bool) :=
 (if a0 ≥ 65 then
 (if a0 ≤ 90 then
 some true
 else
 (if a0 ≥ 97 then
 some (decide (a0 ≤ 122))
 else
 some false))
 else
 (if a0 ≥ 97 then
 some (decide (a0 ≤ 122))
 else
 some false))
theorem Cn {a0 : Int} {r : Bool} (h : mq a0 = some r) : ACall Tryz.prog 186 [.int .u8 a0] [] (fun res h => res = .bool r ∧ h = []) := by
 refine cP Tryz.func186 ?_
 unfold mq at h
 refine .d (.d (sD h (fun de h => ?_) (fun de h => ?_)))
 refine .t (.t (sD h (fun jr h => ?_) (fun jr h => ?_)))
 exact .t (.t (.t (.t (eB h))))
 refine .f (.f (sD h (fun lJ h => ?_) (fun lJ h => ?_)))
 exact .t (.f (.t (.f (eB h))))
 exact .f (.f (.f (.f (eB h))))
 refine .f (.f (.f (.f (.f (sD h (fun oL h => ?_) (fun oL h => ?_))))))
 exact .t (.f (.t (.f (eB h))))
 exact .f (.f (.f (.f (eB h))))
def nG (a0 : Int) : Option (Bool) :=
 (if a0 ≥ 48 then
 some (decide (a0 ≤ 57))
 else
 some false)
theorem D8 {a0 : Int} {r : Bool} (h : nG a0 = some r) : ACall Tryz.prog 187 [.int .u8 a0] [] (fun res h => res = .bool r ∧ h = []) := by
 refine cP Tryz.func187 ?_
 unfold nG at h
 refine .d (.d (sD h (fun de h => ?_) (fun de h => ?_)))
 exact .t (.t (eB h))
 exact .f (.f (eB h))
def lj (a0 : Int) : Option (Bool) :=
 wh (ah (a0)) 97 122 >>= fun v1 =>
 (if v1 = true then
 some true
 else
 wh (ah (a0)) 65 90 >>= fun v4 =>
 (if v4 = true then
 some true
 else
 some (a0 == 95)))
theorem Ax {a0 : Int} {r : Bool} (h : lj a0 = some r) : ACall Tryz.prog 180 [.int .u8 a0] [] (fun res h => res = .bool r ∧ h = []) := by
 refine cP Tryz.func180 ?_
 unfold lj at h
 refine .d (.d (bk h fun v1 jT h => (bO (qH jT) (sV h (fun lJ h => ?_) (fun lJ h => ?_)))))
 exact .t (.t (.t (.t (.t (.t (eB h))))))
 refine .f (.f (bk h fun v4 xy h => (bO (qH xy) (.f (sV h (fun oM h => ?_) (fun oM h => ?_))))))
 exact .t (.t (eB h))
 exact .f (.f (eB h))
def mr (a0 : Int) : Option (Bool) :=
 wh (ah (a0)) 48 57 >>= fun v1 =>
 some v1
theorem Co {a0 : Int} {r : Bool} (h : mr a0 = some r) : ACall Tryz.prog 181 [.int .u8 a0] [] (fun res h => res = .bool r ∧ h = []) := by
 refine cP Tryz.func181 ?_
 unfold mr at h
 exact .d (.d (bk h fun v1 jT h => (bO (qH jT) (eB h))))
def ee (a0 : ba) (y5 : Int) : Option (Int) :=
 (if y5 < (a0.length : Int) then
 vn a0 y5 >>= fun c9 =>
 mq (c9.toNat : Int) >>= fun v11 =>
 (if v11 = true then
 ee a0 (ah (y5 + 1))
 else
 vn a0 y5 >>= fun c14 =>
 (if (c14.toNat : Int) = 95 then
 ee a0 (ah (y5 + 1))
 else
 (if y5 > 0 then
 vn a0 y5 >>= fun TD =>
 nG (TD.toNat : Int) >>= fun v20 =>
 (if v20 = true then
 ee a0 (ah (y5 + 1))
 else
 some y5)
 else
 some y5)))
 else
 some y5)
partial_fixpoint
def kk (a0 : ba) : Option (Int) :=
 (
 ee a0 0
 : Option (Int)) >>= fun y1 =>
 some y1
theorem zm {a0 : ba} {r : Int} (h : kk a0 = some r) : ACall Tryz.prog 156 [.str a0] [] (fun res h => res = .int .i64 r ∧ h = []) := by
 refine cP Tryz.func156 ?_
 unfold kk at h
 refine .d (.d ?_)
 obtain ⟨o2, qD, nB⟩ := bd h
 replace h := qD
 refine .cut (fun σ η => ∃ y1, y1 = o2 ∧ σ = [(3, .int .i64 y1)] ∧ η = []) ?_ ?_
 refine le (ee.partial_correctness a0 (motive := fun y5 J5 => o2 = J5 → az _ _ [(0, .str a0), (3, .int .i64 y5)] []) ?_ 0 o2 h rfl) (tk [] ⟨.s, .i, ⟨⟩⟩ ⟨⟩)
 intro F7 BZ y5 J5 h Mq
 subst Mq
 refine az.round (.d (.d (sD h (fun nh h => ?_) (fun nh h => ?_))))
 refine .t (.t (bk h fun c9 jA h => ⟨oy jA, c9, oz jA, (.t (bk h fun v11 H6 h => (bO (Cn H6) (.t (sV h (fun jS h => ?_) (fun jS h => ?_))))))⟩))
 exact .t (.t (.t (.t (.t (.t (.t (.t (.t (.t (.t (.t (.t (.t (lg (BZ _ _ h rfl) (tk [] ⟨.s, .i, ⟨⟩⟩ ⟨⟩)))))))))))))))
 refine .f (.f (bk h fun c14 lT h => ⟨oy lT, c14, oz lT, (.f (.t (.f (.t (sE h (fun lx h => ?_) (fun lx h => ?_))))))⟩))
 exact .t (.t (.t (.t (.t (.t (.t (lg (BZ _ _ h rfl) (tk [] ⟨.s, .i, ⟨⟩⟩ ⟨⟩))))))))
 refine .f (.f (sD h (fun kR h => ?_) (fun kR h => ?_)))
 refine .t (.t (bk h fun TD da h => ⟨oy da, TD, oz da, (.t (bk h fun v20 xw h => (bO (D8 xw) (.f (.t (.t (.f (.t (sV h (fun kS h => ?_) (fun kS h => ?_))))))))))⟩))
 exact lg (BZ _ _ h rfl) (tk [] ⟨.s, .i, ⟨⟩⟩ ⟨⟩)
 exact afQ
 exact .f (.f (.f (.f (.f (.t (.f (.t (.f (ct ⟨_, si h, rfl, rfl⟩ (tk [] ⟨.i, ⟨⟩⟩ ⟨⟩))))))))))
 exact .f (.f (.f (.f (.f (.f (.f (.f (.f (ct ⟨_, si h, rfl, rfl⟩ (tk [] ⟨.i, ⟨⟩⟩ ⟨⟩))))))))))
 exact aft
def pd (a0 : ba) : Option (Bool) :=
 (if (a0.length : Int) ≤ 20 then
 kk a0 >>= fun v2 =>
 (if v2 = (a0.length : Int) then
 some (!(a0 == ([] : ba)))
 else
 some false)
 else
 some false)
theorem FZ {a0 : ba} {r : Bool} (h : pd a0 = some r) : ACall Tryz.prog 109 [.str a0] [] (fun res h => res = .bool r ∧ h = []) := by
 refine cP Tryz.func109 ?_
 unfold pd at h
 refine .d (.d (sD h (fun de h => ?_) (fun de h => ?_)))
 refine .t (bk h fun v2 DI h => (bO (zm DI) (.t (.t (.t (.t (sE h (fun oL h => ?_) (fun oL h => ?_))))))))
 exact .t (.t (eB h))
 exact .f (.f (eB h))
 exact .f (.f (.f (.f (.f (.f (.f (.f (eB h))))))))
def kl (a0 : ba) : Option (Bool) :=
 (if a0 = ([101, 99, 104, 111] : ba) then
 some true
 else
 (if a0 = ([105, 102] : ba) then
 some true
 else
 (if a0 = ([101, 108, 115, 101] : ba) then
 some true
 else
 (if a0 = ([119, 104, 105, 108, 101] : ba) then
 some true
 else
 (if a0 = ([102, 111, 114, 101, 97, 99, 104] : ba) then
 some true
 else
 (if a0 = ([97, 115] : ba) then
 some true
 else
 (if a0 = ([98, 114, 101, 97, 107] : ba) then
 some true
 else
 (if a0 = ([99, 111, 110, 116, 105, 110, 117, 101] : ba) then
 some true
 else
 (if a0 = ([114, 101, 116, 117, 114, 110] : ba) then
 some true
 else
 (if a0 = ([103, 108, 111, 98, 97, 108] : ba) then
 some true
 else
 (if a0 = ([117, 110, 115, 101, 116] : ba) then
 some true
 else
 (if a0 = ([116, 104, 114, 111, 119] : ba) then
 some true
 else
 (if a0 = ([116, 114, 121] : ba) then
 some true
 else
 (if a0 = ([99, 97, 116, 99, 104] : ba) then
 some true
 else
 (if a0 = ([102, 105, 110, 97, 108, 108, 121] : ba) then
 some true
 else
 (if a0 = ([121, 105, 101, 108, 100] : ba) then
 some true
 else
 (if a0 = ([105, 110, 99, 108, 117, 100, 101] : ba) then
 some true
 else
 (if a0 = ([102, 117, 110, 99, 116, 105, 111, 110] : ba) then
 some true
 else
 (if a0 = ([99, 108, 97, 115, 115] : ba) then
 some true
 else
 (if a0 = ([116, 114, 97, 105, 116] : ba) then
 some true
 else
 (if a0 = ([101, 120, 116, 101, 110, 100, 115] : ba) then
 some true
 else
 (if a0 = ([117, 115, 101] : ba) then
 some true
 else
 (if a0 = ([112, 114, 105, 118, 97, 116, 101] : ba) then
 some true
 else
 (if a0 = ([115, 116, 97, 116, 105, 99] : ba) then
 some true
 else
 (if a0 = ([110, 101, 119] : ba) then
 some true
 else
 (if a0 = ([116, 114, 117, 101] : ba) then
 some true
 else
 (if a0 = ([102, 97, 108, 115, 101] : ba) then
 some true
 else
 (if a0 = ([110, 117, 108, 108] : ba) then
 some true
 else
 some false))))))))))))))))))))))))))))
theorem zn {a0 : ba} {r : Bool} (h : kl a0 = some r) : ACall Tryz.prog 110 [.str a0] [] (fun res h => res = .bool r ∧ h = []) := by
 refine cP Tryz.func110 ?_
 unfold kl at h
 refine .d (.d (.d (.d (.d (sE h (fun de h => ?_) (fun de h => ?_))))))
 exact .kt de (.d (eB h))
 refine .d (sE h (fun jr h => ?_) (fun jr h => ?_))
 exact .kt jr (.d (eB h))
 refine .d (sE h (fun lJ h => ?_) (fun lJ h => ?_))
 exact .kt lJ (.d (eB h))
 refine .d (sE h (fun oL h => ?_) (fun oL h => ?_))
 exact .kt oL (.d (eB h))
 refine .d (sE h (fun nW h => ?_) (fun nW h => ?_))
 exact .kt nW (.d (eB h))
 refine .d (sE h (fun oM h => ?_) (fun oM h => ?_))
 exact .kt oM (.d (eB h))
 refine .d (sE h (fun pT h => ?_) (fun pT h => ?_))
 exact .kt pT (.d (eB h))
 refine .d (sE h (fun nh h => ?_) (fun nh h => ?_))
 exact .kt nh (.d (eB h))
 refine .d (sE h (fun uV h => ?_) (fun uV h => ?_))
 exact .kt uV (.d (eB h))
 refine .d (sE h (fun eY h => ?_) (fun eY h => ?_))
 exact .kt eY (.d (eB h))
 refine .d (sE h (fun jU h => ?_) (fun jU h => ?_))
 exact .kt jU (.d (eB h))
 refine .d (sE h (fun ly h => ?_) (fun ly h => ?_))
 exact .kt ly (.d (eB h))
 refine .d (sE h (fun jS h => ?_) (fun jS h => ?_))
 exact .kt jS (.d (eB h))
 refine .d (sE h (fun kU h => ?_) (fun kU h => ?_))
 exact .kt kU (.d (eB h))
 refine .d (sE h (fun dI h => ?_) (fun dI h => ?_))
 exact .kt dI (.d (eB h))
 refine .d (sE h (fun lx h => ?_) (fun lx h => ?_))
 exact .kt lx (.d (eB h))
 refine .d (sE h (fun kR h => ?_) (fun kR h => ?_))
 exact .kt kR (.d (eB h))
 refine .d (sE h (fun oX h => ?_) (fun oX h => ?_))
 exact .kt oX (.d (eB h))
 refine .d (sE h (fun qI h => ?_) (fun qI h => ?_))
 exact .kt qI (.d (eB h))
 refine .d (sE h (fun pf h => ?_) (fun pf h => ?_))
 exact .kt pf (.d (eB h))
 refine .d (sE h (fun rO h => ?_) (fun rO h => ?_))
 exact .kt rO (.d (eB h))
 refine .d (sE h (fun kS h => ?_) (fun kS h => ?_))
 exact .kt kS (.d (eB h))
 refine .d (sE h (fun pW h => ?_) (fun pW h => ?_))
 exact .kt pW (.d (eB h))
 refine .d (sE h (fun Cp h => ?_) (fun Cp h => ?_))
 exact .kt Cp (.d (eB h))
 refine .d (sE h (fun sJ h => ?_) (fun sJ h => ?_))
 exact .kt sJ (.d (eB h))
 refine .d (sE h (fun wi h => ?_) (fun wi h => ?_))
 exact .kt wi (.d (eB h))
 refine .d (sE h (fun sL h => ?_) (fun sL h => ?_))
 exact .kt sL (.d (eB h))
 refine sE h (fun rP h => ?_) (fun rP h => ?_)
 exact afJ
 exact afJ
def ef (a0 : ba) : Option (Bool) :=
 pd a0 >>= fun v1 =>
 (if v1 = true then
 kl a0 >>= fun v4 =>
 some (!v4)
 else
 some false)
theorem nn {a0 : ba} {r : Bool} (h : ef a0 = some r) : ACall Tryz.prog 55 [.str a0] [] (fun res h => res = .bool r ∧ h = []) := by
 refine cP Tryz.func55 ?_
 unfold ef at h
 refine .d (.d (bk h fun v1 jT h => (bO (FZ jT) (sV h (fun lJ h => ?_) (fun lJ h => ?_)))))
 exact .t (bk h fun v4 xy h => (bO (zn xy) (.t (.t (eB h)))))
 exact .f (.f (.f (eB h)))
def jk (a0 : ba) (a1 : Int) (y5 : Int) : Option (Int) :=
 (if y5 < (a0.length : Int) then
 vn a0 y5 >>= fun c9 =>
 lj (c9.toNat : Int) >>= fun v11 =>
 (if v11 = true then
 jk a0 a1 (ah (y5 + 1))
 else
 (if y5 > a1 then
 vn a0 y5 >>= fun c15 =>
 mr (c15.toNat : Int) >>= fun FW =>
 (if FW = true then
 jk a0 a1 (ah (y5 + 1))
 else
 some y5)
 else
 some y5))
 else
 some y5)
partial_fixpoint
def nH (a0 : ba) (a1 : Int) : Option (Int) :=
 (
 jk a0 a1 a1
 : Option (Int)) >>= fun y1 =>
 some y1
theorem D9 {a0 : ba} {a1 : Int} {r : Int} (h : nH a0 a1 = some r) : ACall Tryz.prog 142 [.str a0, .int .i64 a1] [] (fun res h => res = .int .i64 r ∧ h = []) := by
 refine cP Tryz.func142 ?_
 unfold nH at h
 refine .d (.d ?_)
 obtain ⟨o2, qD, nB⟩ := bd h
 replace h := qD
 refine .cut (fun σ η => ∃ y1, y1 = o2 ∧ σ = [(5, .int .i64 y1)] ∧ η = []) ?_ ?_
 refine le (jk.partial_correctness a0 a1 (motive := fun y5 RU => o2 = RU → az _ _ [(0, .str a0), (1, .int .i64 a1), (5, .int .i64 y5)] []) ?_ a1 o2 h rfl) (tk [] ⟨.s, .i, .i, ⟨⟩⟩ ⟨⟩)
 intro F7 BZ y5 RU h MJ
 subst MJ
 refine az.round (.d (.d (sD h (fun nh h => ?_) (fun nh h => ?_))))
 refine .t (.t (bk h fun c9 jA h => ⟨oy jA, c9, oz jA, (.t (bk h fun v11 H6 h => (bO (Ax H6) (.t (sV h (fun jS h => ?_) (fun jS h => ?_))))))⟩))
 exact .t (.t (.t (.t (.t (.t (.t (.t (lg (BZ _ _ h rfl) (tk [] ⟨.s, .i, .i, ⟨⟩⟩ ⟨⟩)))))))))
 refine .f (.f (.f (sD h (fun kU h => ?_) (fun kU h => ?_))))
 refine .t (.t (bk h fun c15 rK h => ⟨oy rK, c15, oz rK, (.t (bk h fun FW MK h => (bO (Co MK) (.f (.t (.t (.f (.t (sV h (fun qI h => ?_) (fun qI h => ?_))))))))))⟩))
 exact lg (BZ _ _ h rfl) (tk [] ⟨.s, .i, .i, ⟨⟩⟩ ⟨⟩)
 exact afQ
 exact .f (.f (.f (.f (.f (.t (.f (.t (.f (ct ⟨_, si h, rfl, rfl⟩ (tk [] ⟨.i, ⟨⟩⟩ ⟨⟩))))))))))
 exact .f (.f (.f (.f (.f (.f (.f (ct ⟨_, si h, rfl, rfl⟩ (tk [] ⟨.i, ⟨⟩⟩ ⟨⟩))))))))
 exact aft
def pg (a0 : ba) : Option (Bool) :=
 (if (a0.length : Int) ≥ 1 then
 (if (a0.length : Int) ≤ 20 then
 nH a0 0 >>= fun v3 =>
 some (v3 == (a0.length : Int))
 else
 some false)
 else
 some false)
theorem Ga {a0 : ba} {r : Bool} (h : pg a0 = some r) : ACall Tryz.prog 96 [.str a0] [] (fun res h => res = .bool r ∧ h = []) := by
 refine cP Tryz.func96 ?_
 unfold pg at h
 refine .d (.d (sD h (fun de h => ?_) (fun de h => ?_)))
 refine .t (.t (.t (sD h (fun jr h => ?_) (fun jr h => ?_))))
 exact .t (bk h fun v3 CR h => (bO (D9 CR) (.t (.t (.t (.t (eB h)))))))
 exact .f (.f (.f (.f (.f (eB h)))))
 exact .f (.f (.f (.f (.f (.f (.f (.f (.f (eB h)))))))))
def iL (a0 : ba) (y4 : Int) : Option ((Unit) ⊕ Bool) :=
 (if y4 < (([[101, 99, 104, 111], [105, 102], [101, 108, 115, 101], [119, 104, 105, 108, 101], [102, 111, 114, 101, 97, 99, 104], [97, 115], [98, 114, 101, 97, 107], [99, 111, 110, 116, 105, 110, 117, 101], [114, 101, 116, 117, 114, 110], [103, 108, 111, 98, 97, 108], [117, 110, 115, 101, 116], [116, 104, 114, 111, 119], [116, 114, 121], [99, 97, 116, 99, 104], [102, 105, 110, 97, 108, 108, 121], [121, 105, 101, 108, 100], [105, 110, 99, 108, 117, 100, 101], [102, 117, 110, 99, 116, 105, 111, 110], [99, 108, 97, 115, 115], [116, 114, 97, 105, 116], [101, 120, 116, 101, 110, 100, 115], [117, 115, 101], [112, 114, 105, 118, 97, 116, 101], [115, 116, 97, 116, 105, 99], [110, 101, 119], [116, 114, 117, 101], [102, 97, 108, 115, 101], [110, 117, 108, 108]] : List ba).length : Int) then
 idx ([[101, 99, 104, 111], [105, 102], [101, 108, 115, 101], [119, 104, 105, 108, 101], [102, 111, 114, 101, 97, 99, 104], [97, 115], [98, 114, 101, 97, 107], [99, 111, 110, 116, 105, 110, 117, 101], [114, 101, 116, 117, 114, 110], [103, 108, 111, 98, 97, 108], [117, 110, 115, 101, 116], [116, 104, 114, 111, 119], [116, 114, 121], [99, 97, 116, 99, 104], [102, 105, 110, 97, 108, 108, 121], [121, 105, 101, 108, 100], [105, 110, 99, 108, 117, 100, 101], [102, 117, 110, 99, 116, 105, 111, 110], [99, 108, 97, 115, 115], [116, 114, 97, 105, 116], [101, 120, 116, 101, 110, 100, 115], [117, 115, 101], [112, 114, 105, 118, 97, 116, 101], [115, 116, 97, 116, 105, 99], [110, 101, 119], [116, 114, 117, 101], [102, 97, 108, 115, 101], [110, 117, 108, 108]] : List ba) y4 >>= fun x8 =>
 (if x8 = a0 then
 some (.inr true)
 else
 iL a0 (ah (y4 + 1)))
 else
 some (.inl ()))
partial_fixpoint
def km (a0 : ba) : Option (Bool) :=
 ((
 iL a0 0
 : Option ((Unit) ⊕ Bool)) >>= fun o1 => match o1 with
 | .inr r => some r
 | .inl _ =>
 some false
 )
theorem zo {a0 : ba} {r : Bool} (h : km a0 = some r) : ACall Tryz.prog 97 [.str a0] [] (fun res h => res = .bool r ∧ h = []) := by
 refine cP Tryz.func97 ?_
 unfold km at h
 refine .d (.d ⟨row cS ([[101, 99, 104, 111], [105, 102], [101, 108, 115, 101], [119, 104, 105, 108, 101], [102, 111, 114, 101, 97, 99, 104], [97, 115], [98, 114, 101, 97, 107], [99, 111, 110, 116, 105, 110, 117, 101], [114, 101, 116, 117, 114, 110], [103, 108, 111, 98, 97, 108], [117, 110, 115, 101, 116], [116, 104, 114, 111, 119], [116, 114, 121], [99, 97, 116, 99, 104], [102, 105, 110, 97, 108, 108, 121], [121, 105, 101, 108, 100], [105, 110, 99, 108, 117, 100, 101], [102, 117, 110, 99, 116, 105, 111, 110], [99, 108, 97, 115, 115], [116, 114, 97, 105, 116], [101, 120, 116, 101, 110, 100, 115], [117, 115, 101], [112, 114, 105, 118, 97, 116, 101], [115, 116, 97, 116, 105, 99], [110, 101, 119], [116, 114, 117, 101], [102, 97, 108, 115, 101], [110, 117, 108, 108]] : List ba), dN cS ([[101, 99, 104, 111], [105, 102], [101, 108, 115, 101], [119, 104, 105, 108, 101], [102, 111, 114, 101, 97, 99, 104], [97, 115], [98, 114, 101, 97, 107], [99, 111, 110, 116, 105, 110, 117, 101], [114, 101, 116, 117, 114, 110], [103, 108, 111, 98, 97, 108], [117, 110, 115, 101, 116], [116, 104, 114, 111, 119], [116, 114, 121], [99, 97, 116, 99, 104], [102, 105, 110, 97, 108, 108, 121], [121, 105, 101, 108, 100], [105, 110, 99, 108, 117, 100, 101], [102, 117, 110, 99, 116, 105, 111, 110], [99, 108, 97, 115, 115], [116, 114, 97, 105, 116], [101, 120, 116, 101, 110, 100, 115], [117, 115, 101], [112, 114, 105, 118, 97, 116, 101], [115, 116, 97, 116, 105, 99], [110, 101, 119], [116, 114, 117, 101], [102, 97, 108, 115, 101], [110, 117, 108, 108]] : List ba) rfl (eg rfl), ?_⟩)
 obtain ⟨o1, Aw, ow⟩ := bd h
 replace h := Aw
 refine .cut (fun σ η => .inl () = o1 ∧ σ = [] ∧ η = []) ?_ ?_
 refine .d ?_
 refine le (iL.partial_correctness a0 (motive := fun y4 Ic => o1 = Ic → az _ _ [(0, .str a0), (3, .own 0 0 0 ([[101, 99, 104, 111], [105, 102], [101, 108, 115, 101], [119, 104, 105, 108, 101], [102, 111, 114, 101, 97, 99, 104], [97, 115], [98, 114, 101, 97, 107], [99, 111, 110, 116, 105, 110, 117, 101], [114, 101, 116, 117, 114, 110], [103, 108, 111, 98, 97, 108], [117, 110, 115, 101, 116], [116, 104, 114, 111, 119], [116, 114, 121], [99, 97, 116, 99, 104], [102, 105, 110, 97, 108, 108, 121], [121, 105, 101, 108, 100], [105, 110, 99, 108, 117, 100, 101], [102, 117, 110, 99, 116, 105, 111, 110], [99, 108, 97, 115, 115], [116, 114, 97, 105, 116], [101, 120, 116, 101, 110, 100, 115], [117, 115, 101], [112, 114, 105, 118, 97, 116, 101], [115, 116, 97, 116, 105, 99], [110, 101, 119], [116, 114, 117, 101], [102, 97, 108, 115, 101], [110, 117, 108, 108]] : List ba).length), (4, .int .i64 y4)] [.row 0 1 ([[101, 99, 104, 111], [105, 102], [101, 108, 115, 101], [119, 104, 105, 108, 101], [102, 111, 114, 101, 97, 99, 104], [97, 115], [98, 114, 101, 97, 107], [99, 111, 110, 116, 105, 110, 117, 101], [114, 101, 116, 117, 114, 110], [103, 108, 111, 98, 97, 108], [117, 110, 115, 101, 116], [116, 104, 114, 111, 119], [116, 114, 121], [99, 97, 116, 99, 104], [102, 105, 110, 97, 108, 108, 121], [121, 105, 101, 108, 100], [105, 110, 99, 108, 117, 100, 101], [102, 117, 110, 99, 116, 105, 111, 110], [99, 108, 97, 115, 115], [116, 114, 97, 105, 116], [101, 120, 116, 101, 110, 100, 115], [117, 115, 101], [112, 114, 105, 118, 97, 116, 101], [115, 116, 97, 116, 105, 99], [110, 101, 119], [116, 114, 117, 101], [102, 97, 108, 115, 101], [110, 117, 108, 108]] : List ba).length 9 (row cS ([[101, 99, 104, 111], [105, 102], [101, 108, 115, 101], [119, 104, 105, 108, 101], [102, 111, 114, 101, 97, 99, 104], [97, 115], [98, 114, 101, 97, 107], [99, 111, 110, 116, 105, 110, 117, 101], [114, 101, 116, 117, 114, 110], [103, 108, 111, 98, 97, 108], [117, 110, 115, 101, 116], [116, 104, 114, 111, 119], [116, 114, 121], [99, 97, 116, 99, 104], [102, 105, 110, 97, 108, 108, 121], [121, 105, 101, 108, 100], [105, 110, 99, 108, 117, 100, 101], [102, 117, 110, 99, 116, 105, 111, 110], [99, 108, 97, 115, 115], [116, 114, 97, 105, 116], [101, 120, 116, 101, 110, 100, 115], [117, 115, 101], [112, 114, 105, 118, 97, 116, 101], [115, 116, 97, 116, 105, 99], [110, 101, 119], [116, 114, 117, 101], [102, 97, 108, 115, 101], [110, 117, 108, 108]] : List ba))]) ?_ 0 o1 h rfl) (tk [0] ⟨.s, .o, .i, ⟨⟩⟩ ⟨nw, ⟨⟩⟩)
 intro F6 Qg y4 Ic h Im
 subst Im
 refine az.round (.d (.d ⟨rfl, (sD h (fun pT h => ?_) (fun pT h => ?_))⟩))
 refine .d (.d (bk h fun x8 Gb h => ⟨rfl, aI Gb, _, No _, ⟨rfl, _, ((aF Gb).trans rfl), (sE h (fun eY h => ?_) (fun eY h => ?_))⟩⟩))
 refine .d ?_
 exact afk
 exact lg (Qg _ _ h rfl) (tk [0] ⟨.s, .o, .i, ⟨⟩⟩ ⟨nw, ⟨⟩⟩)
 exact afN
 rintro _ _ ⟨rfl, rfl, rfl⟩
 replace h := ow
 exact afJ
def gq (a0 : ba) : Option (Bool) :=
 pg a0 >>= fun v1 =>
 (if v1 = true then
 km a0 >>= fun v4 =>
 some (!v4)
 else
 some false)
theorem oA {a0 : ba} {r : Bool} (h : gq a0 = some r) : ACall Tryz.prog 47 [.str a0] [] (fun res h => res = .bool r ∧ h = []) := by
 refine cP Tryz.func47 ?_
 unfold gq at h
 refine .d (.d (bk h fun v1 jT h => (bO (Ga jT) (sV h (fun lJ h => ?_) (fun lJ h => ?_)))))
 exact .t (bk h fun v4 xy h => (bO (zo xy) (.t (.t (eB h)))))
 exact .f (.f (.f (eB h)))
end Go.Am
