/- Texts of the proof, joined and shortened. -/
import Derived.Test.YtalfppmpmnlnlaaGreatDoorPk8
import Derived.Lib.AtoiTie
set_option linter.unusedVariables false
set_option linter.unusedSimpArgs false
set_option synthInstance.maxHeartbeats 400000
set_option synthInstance.maxSize 4000
set_option maxRecDepth 100000
set_option maxHeartbeats 2000000
namespace Go.Am
open Go Go.RowKit Go.Proofs
def eH (a0 : List UInt8) (y5 : Int) (y6 : Int) (y7 : Int) : Option ((Unit) ⊕ (Int × Int × Bool)) :=
 (if y7 < 6 then
 (if y5 ≥ (a0.length : Int) then
 some (.inr (0, 0, false))
 else
 idx a0 y5 >>= fun c12 =>
 must (0 ≤ (ai (7 * y7))) >>= fun _ =>
 (if (ai ((c12.toNat : Int))) < 128 then
 (if (ai ((c12.toNat : Int))) = 0 then
 (if y7 > 0 then
 some (.inr (0, 0, false))
 else
 (if (ai (y6 + (ai (((ai ((c12.toNat : Int))).tmod 128) * 2 ^ min (ai (7 * y7)).toNat IntKind.i64.bits)))) > 1000000000000 then
 some (.inr (0, 0, false))
 else
 some (.inr (ai (y6 + (ai (((ai ((c12.toNat : Int))).tmod 128) * 2 ^ min (ai (7 * y7)).toNat IntKind.i64.bits))), ai (y5 + 1), true))))
 else
 (if (ai (y6 + (ai (((ai ((c12.toNat : Int))).tmod 128) * 2 ^ min (ai (7 * y7)).toNat IntKind.i64.bits)))) > 1000000000000 then
 some (.inr (0, 0, false))
 else
 some (.inr (ai (y6 + (ai (((ai ((c12.toNat : Int))).tmod 128) * 2 ^ min (ai (7 * y7)).toNat IntKind.i64.bits))), ai (y5 + 1), true))))
 else
 eH a0 (ai (y5 + 1)) (ai (y6 + (ai (((ai ((c12.toNat : Int))).tmod 128) * 2 ^ min (ai (7 * y7)).toNat IntKind.i64.bits)))) (ai (y7 + 1))))
 else
 some (.inl ()))
partial_fixpoint
def gH (a0 : List UInt8) (a1 : Int) : Option (Int × Int × Bool) :=
 (if a1 < 0 then
 some (0, 0, false)
 else
 ((
 eH a0 a1 0 0
 : Option ((Unit) ⊕ (Int × Int × Bool))) >>= fun o2 => match o2 with
 | .inr r => some r
 | .inl _ =>
 some (0, 0, false)
 ))
theorem rI {a0 : List UInt8} {a1 : Int} {r : Int × Int × Bool} (h : gH a0 a1 = some r) : ACall Tryz.prog 76 [sl 1 cB a0, .int .i64 a1] [] (fun res h => res = .fu [.int .i64 r.1, .int .i64 r.2.1, .bool r.2.2] ∧ h = []) := by
 refine dx Tryz.func76 ?_
 unfold gH at h
 refine .d (.d (.d (sD h (fun eD h => ?_) (fun eD h => ?_))))
 refine .d ?_
 exact agG
 refine .d ?_
 obtain ⟨o2, mD, ft⟩ := bd h
 replace h := mD
 refine .cut (fun σ η => .inl () = o2 ∧ σ = [] ∧ η = []) ?_ ?_
 refine .d ?_
 refine le (eH.partial_correctness a0 (motive := fun y5 y6 y7 Ij => o2 = Ij → aB _ _ [(0, sl 1 cB a0), (1, .int .i64 y5), (7, .int .i64 y6), (8, .int .i64 y7)] []) ?_ a1 0 0 o2 h rfl) (tk [] ⟨.l, .i, .i, .i, ⟨⟩⟩ ⟨⟩)
 intro F9 R7 y5 y6 y7 Ij h Ik
 subst Ik
 refine aB.round (.d (.d (sD h (fun iy h => ?_) (fun iy h => ?_))))
 refine .d (.d (.d (sD h (fun jt h => ?_) (fun jt h => ?_))))
 refine .d ?_
 exact agM
 refine .d (bk h fun c12 rH h => ⟨aK rH, _, (aD rH).trans rfl, (.d (.d ⟨by decide, ?_⟩))⟩)
 obtain ⟨_, acn, h⟩ := bd h
 refine ⟨DH acn, (.d (sD h (fun eE h => ?_) (fun eE h => ?_)))⟩
 refine .d (.d (sE h (fun kz h => ?_) (fun kz h => ?_)))
 refine .t (.t (sD h (fun jO h => ?_) (fun jO h => ?_)))
 refine .t (.t (.t (.d ?_)))
 exact agM
 refine .f (.f (sD h (fun lG h => ?_) (fun lG h => ?_)))
 refine .d ?_
 exact agM
 refine .d ?_
 exact agM
 refine .f (.f (.f (.f (.f (sD h (fun lH h => ?_) (fun lH h => ?_))))))
 refine .d ?_
 exact agM
 refine .d ?_
 exact agM
 exact lg (R7 _ _ _ _ h rfl) (tk [] ⟨.l, .i, .i, .i, ⟨⟩⟩ ⟨⟩)
 exact agQ
 rintro _ _ ⟨rfl, rfl, rfl⟩
 replace h := ft
 refine .d ?_
 exact agG
def lB (a0 : List UInt8) (a1 : Int) (a2 : Int) : Option (aU × Int × Bool) :=
 gH a0 a1 >>= fun (v1, v2, v3) =>
 (if v3 = true then
 (if v1 > a2 then
 some ([], 0, false)
 else
 (if v1 > (ai ((a0.length : Int) - v2)) then
 some ([], 0, false)
 else
 IU a0 v2 (ai (v2 + v1)) >>= fun l8 =>
 some (l8, ai (v2 + v1), true)))
 else
 some ([], 0, false))
theorem Da {a0 : List UInt8} {a1 : Int} {a2 : Int} {r : aU × Int × Bool} (h : lB a0 a1 a2 = some r) : ACall Tryz.prog 124 [sl 1 cB a0, .int .i64 a1, .int .i64 a2] [] (fun res h => res = .fu [.str r.1, .int .i64 r.2.1, .bool r.2.2] ∧ h = []) := by
 refine dx Tryz.func124 ?_
 unfold lB at h
 refine .d (.d ?_)
 obtain ⟨⟨v1, v2, v3⟩, A6, h⟩ := bd h
 refine bJ (rI A6) (.d (.d (hB h (fun lY h => ?_) (fun lY h => ?_))))
 refine .t (.t (.t (.t (.t (.t (.t (.t (.t (.t (.t (.d ?_)))))))))))
 exact agy
 refine .f (.f (.f (sD h (fun mJ h => ?_) (fun mJ h => ?_))))
 refine .t (.t (.t (.t (.t (.t (.t (.d ?_)))))))
 exact agy
 refine .f (.f (.f (.f (.f (.f (sD h (fun nr h => ?_) (fun nr h => ?_)))))))
 refine .d ?_
 exact agy
 refine .d (bk h fun l8 Ar h => ⟨trivial, AS Ar, l8.length, row cB l8, By Ar, GW Ar, ⟨l8, rfl, fun _ hi => uY hi, ?_⟩⟩)
 exact agy
def bA (a0 : aI) : Option (Int × aI) :=
 gH a0.fB a0.dy >>= fun (v1, v2, v3) =>
 (if v3 = true then
 (if a0.db = true then
 some (0, (aI.mk a0.fB a0.dy true))
 else
 some (v1, (aI.mk a0.fB v2 a0.db)))
 else
 some (0, (aI.mk a0.fB a0.dy true)))
theorem bW {a0 : aI} {r : Int × aI} {g1000 : Nat} (h : bA a0 = some r) : ACall Tryz.prog 36 [.aG 0 g1000 0 0] [.row g1000 3 1 81 (fun _ => a0.lit)] (fun res h => res = .int .i64 r.1 ∧ h = [.row g1000 3 1 81 (fun _ => r.2.lit)]) := by
 refine dx Tryz.func36 ?_
 unfold bA at h
 refine .d (.d (.float [(0, true), (1, true), (2, true), (3, true), (4, true), (5, true), (6, true), (7, true), (8, false), (9, true), (10, true), (11, true), (12, true), (13, true), (14, true), (15, true)] ahA ?_))
 refine ⟨rfl, ⟨rfl, ⟨rfl, _, rfl, ⟨rfl, ⟨rfl, ⟨rfl, _, rfl, ?_⟩⟩⟩⟩⟩⟩
 obtain ⟨⟨v1, v2, v3⟩, A6, h⟩ := bd h
 refine bJ (rI A6) (.d (.d (hB h (fun lY h => ?_) (fun lY h => ?_))))
 refine .t (.t (.t (.t (.t (.d ⟨rfl, ⟨rfl, ⟨rfl, _, fun _ => [sl 1 cB a0.fB, .int .i64 a0.dy, .bool true], rfl, ar rfl, (.d ?_)⟩⟩⟩)))))
 exact agE
 refine .f ⟨rfl, (.f ⟨rfl, (.f ⟨rfl, _, rfl, (.f (sV h (fun mJ h => ?_) (fun mJ h => ?_)))⟩)⟩)⟩
 refine .d ⟨rfl, ⟨rfl, ⟨rfl, _, fun _ => [sl 1 cB a0.fB, .int .i64 a0.dy, .bool true], rfl, ar rfl, (.d ?_)⟩⟩⟩
 exact agE
 refine .d ⟨rfl, ⟨rfl, ⟨rfl, _, fun _ => [sl 1 cB a0.fB, .int .i64 v2, .bool a0.db], rfl, ar rfl, (.d ?_)⟩⟩⟩
 exact agE
def bu (a0 : aI) : Option (aU × aI) :=
 lB a0.fB a0.dy 1000000000000 >>= fun (v1, v2, v3) =>
 (if v3 = true then
 (if a0.db = true then
 some ([], (aI.mk a0.fB a0.dy true))
 else
 some (v1, (aI.mk a0.fB v2 a0.db)))
 else
 some ([], (aI.mk a0.fB a0.dy true)))
theorem bC {a0 : aI} {r : aU × aI} {g1000 : Nat} (h : bu a0 = some r) : ACall Tryz.prog 77 [.aG 0 g1000 0 0] [.row g1000 3 1 81 (fun _ => a0.lit)] (fun res h => res = .str r.1 ∧ h = [.row g1000 3 1 81 (fun _ => r.2.lit)]) := by
 refine dx Tryz.func77 ?_
 unfold bu at h
 refine .d (.d (.float [(0, true), (1, true), (2, true), (3, true), (4, true), (5, true), (6, true), (7, true), (8, false), (9, true), (10, true), (11, true), (12, true), (13, true), (14, true), (15, true)] ahA ?_))
 refine ⟨rfl, ⟨rfl, ⟨rfl, _, rfl, ⟨rfl, ⟨rfl, ⟨rfl, _, rfl, ?_⟩⟩⟩⟩⟩⟩
 obtain ⟨⟨v1, v2, v3⟩, A6, h⟩ := bd h
 refine bJ (Da A6) (.d (.d (hB h (fun lY h => ?_) (fun lY h => ?_))))
 refine .t (.t (.t (.t (.t (.d ⟨rfl, ⟨rfl, ⟨rfl, _, fun _ => [sl 1 cB a0.fB, .int .i64 a0.dy, .bool true], rfl, ar rfl, (.d ?_)⟩⟩⟩)))))
 exact agF
 refine .f ⟨rfl, (.f ⟨rfl, (.f ⟨rfl, _, rfl, (.f (sV h (fun mJ h => ?_) (fun mJ h => ?_)))⟩)⟩)⟩
 refine .d ⟨rfl, ⟨rfl, ⟨rfl, _, fun _ => [sl 1 cB a0.fB, .int .i64 a0.dy, .bool true], rfl, ar rfl, (.d ?_)⟩⟩⟩
 exact agF
 refine .d ⟨rfl, ⟨rfl, ⟨rfl, _, fun _ => [sl 1 cB a0.fB, .int .i64 v2, .bool a0.db], rfl, ar rfl, (.d ?_)⟩⟩⟩
 exact agF
def cG (a0 : aI) : Option (Bool × aI) :=
 bA a0 >>= fun (v1, v2) =>
 (if v1 > 1 then
 some ((v1 == 1), (aI.mk v2.fB v2.dy true))
 else
 some ((v1 == 1), v2))
theorem fY {a0 : aI} {r : Bool × aI} {g1000 : Nat} (h : cG a0 = some r) : ACall Tryz.prog 79 [.aG 0 g1000 0 0] [.row g1000 3 1 81 (fun _ => a0.lit)] (fun res h => res = .bool r.1 ∧ h = [.row g1000 3 1 81 (fun _ => r.2.lit)]) := by
 refine dx Tryz.func79 ?_
 unfold cG at h
 refine .d (.d ?_)
 obtain ⟨⟨v1, v2⟩, qs, h⟩ := bd h
 refine ko (bW (g1000 := g1000) qs) [0] ⟨rfl, ⟨⟩⟩ (.int .i64 v1) [.row g1000 3 1 81 (fun _ => v2.lit)] (.d (.d (sD h (fun oN h => ?_) (fun oN h => ?_))))
 refine ⟨rfl, ⟨rfl, ⟨rfl, _, fun _ => [sl 1 cB v2.fB, .int .i64 v2.dy, .bool true], rfl, ar rfl, (.d ?_)⟩⟩⟩
 obtain rfl := si h
 exact en [0] ⟨rfl, rfl⟩ .b ⟨(ob rfl ⟨.l, .i, .b, ⟨⟩⟩), ⟨⟩⟩
 refine .d ?_
 obtain rfl := si h
 exact en [0] ⟨rfl, rfl⟩ .b ⟨(ob rfl ⟨.l, .i, .b, ⟨⟩⟩), ⟨⟩⟩
def cx (NY : List UInt8) (bB : Int) (K3 : Bool) (jK : List TParam) (YZ : Int) : Option ((List UInt8) × Int × Bool × (List TParam)) :=
 (if YZ > 0 then
 (if K3 = true then
 some (NY, bB, K3, jK)
 else
 bu (aI.mk NY bB K3) >>= fun (v20, v21) =>
 cG v21 >>= fun (kK, v24) =>
 im 24 jK ([(TParam.mk v20 kK)] : List TParam) >>= fun IB =>
 cx v24.fB v24.dy v24.db IB (ai (YZ - 1)))
 else
 some (NY, bB, K3, jK))
partial_fixpoint
def dZ (a0 : aI) : Option ((List TParam) × aI) :=
 (
 bA a0 >>= fun (v8, v9) =>
 cx v9.fB v9.dy v9.db ([] : List TParam) v8
 : Option ((List UInt8) × Int × Bool × (List TParam))) >>= fun (l1, y2, b3, l4) =>
 some (l4, (aI.mk l1 y2 b3))
theorem mY {a0 : aI} {r : (List TParam) × aI} {g1000 : Nat} (h : dZ a0 = some r) : ACall Tryz.prog 78 [.aG 0 g1000 0 0] [.row g1000 3 1 81 (fun _ => a0.lit)] (fun res h => res = .own 1 0 0 r.1.length ∧ h = [.row g1000 3 1 81 (fun _ => r.2.lit), .row 0 2 r.1.length 61 (row TParam.cells r.1)]) := by
 refine dx Tryz.func78 ?_
 unfold dZ at h
 refine .d (.d ⟨row TParam.cells ([] : List TParam), de TParam.cells ([] : List TParam) rfl (cD rfl), ?_⟩)
 obtain ⟨o5, ym, wS⟩ := bd h
 replace h := ym
 refine .cut (fun σ η => ∃ l1, ∃ y2, ∃ b3, ∃ l4, (l1, y2, b3, l4) = o5 ∧ σ = [(3, .own 1 0 0 l4.length)] ∧ η = [.row g1000 3 1 81 (fun _ => [sl 1 cB l1, .int .i64 y2, .bool b3]), .row 0 2 l4.length 61 (row TParam.cells l4)]) ?_ ?_
 refine .d ?_
 obtain ⟨⟨v8, v9⟩, Iu, h⟩ := bd h
 refine ko (bW (g1000 := g1000) Iu) [0] ⟨rfl, ⟨⟩⟩ (.int .i64 v8) [.row g1000 3 1 81 (fun _ => v9.lit), .row 0 2 ([] : List TParam).length 61 (row TParam.cells ([] : List TParam))] ?_
 refine le (cx.partial_correctness  (motive := fun NY bB K3 jK YZ Xf => o5 = Xf → aB _ _ [(0, .aG 0 g1000 0 0), (3, .own 1 0 0 jK.length), (4, .int .i64 YZ)] [.row g1000 3 1 81 (fun _ => [sl 1 cB NY, .int .i64 bB, .bool K3]), .row 0 2 jK.length 61 (row TParam.cells jK)]) ?_ v9.fB v9.dy v9.db ([] : List TParam) v8 o5 h rfl) (tk [0, 1] ⟨.p, .o, .i, ⟨⟩⟩ ⟨(nA rfl), nw, ⟨⟩⟩)
 intro F17 aco NY bB K3 jK YZ Xf h acp
 subst acp
 refine aB.round (.d (.d (sD h (fun lG h => ?_) (fun lG h => ?_))))
 refine .t ⟨rfl, (.t ⟨rfl, (.t ⟨rfl, _, rfl, (.t (.t (hB h (fun lH h => ?_) (fun lH h => ?_))))⟩)⟩)⟩
 refine .d (.d ?_)
 obtain ⟨⟨v20, v21⟩, MM, h⟩ := bd h
 refine ko (bC (g1000 := g1000) MM) [0] ⟨rfl, ⟨⟩⟩ (.str v20) [.row g1000 3 1 81 (fun _ => v21.lit), .row 0 2 jK.length 61 (row TParam.cells jK)] ?_
 obtain ⟨⟨kK, v24⟩, TN, h⟩ := bd h
 exact ko (fY (g1000 := g1000) TN) [0] ⟨rfl, ⟨⟩⟩ (.bool kK) [.row g1000 3 1 81 (fun _ => v24.lit), .row 0 2 jK.length 61 (row TParam.cells jK)] ⟨row TParam.cells ([(TParam.mk v20 kK)] : List TParam), de TParam.cells ([(TParam.mk v20 kK)] : List TParam) rfl (cD rfl), (bk h fun IB EG h => ⟨rfl, rfl, lI (l := ([(TParam.mk v20 kK)] : List TParam)) aS, eL EG, IB.length, row TParam.cells IB, dq EG, dB EG aS (jr aS), (lg (aco _ _ _ _ _ _ h rfl) (tk [0, 1] ⟨.p, .o, .i, ⟨⟩⟩ ⟨(nA rfl), nw, ⟨⟩⟩))⟩)⟩
 exact ct ⟨_, _, _, _, si h, rfl, rfl⟩ (tk [0, 1] ⟨.o, ⟨⟩⟩ ⟨(nA rfl), nw, ⟨⟩⟩)
 exact .f (.f (.f (.f (.f (.f (ct ⟨_, _, _, _, si h, rfl, rfl⟩ (tk [0, 1] ⟨.o, ⟨⟩⟩ ⟨(nA rfl), nw, ⟨⟩⟩)))))))
 rintro _ _ ⟨l1, y2, b3, l4, rfl, rfl, rfl⟩
 replace h := wS
 refine .d ?_
 obtain rfl := si h
 exact en [0, 1] ⟨rfl, rfl⟩ .o ⟨(ob rfl ⟨.l, .i, .b, ⟨⟩⟩), nw, ⟨⟩⟩
def cm (IW : List UInt8) (Mm : Int) (Kb : Bool) (wT : List TParam) (yh : List TParam) (qh : List aU) (mi : List aL) (N4 : List aU) (Su : List aL) (Y0 : Int) : Option ((List UInt8) × Int × Bool × (List TParam) × (List TParam) × (List aU) × (List aL) × (List aU) × (List aL)) :=
 (if Y0 > 0 then
 (if Kb = true then
 some (IW, Mm, Kb, wT, yh, qh, mi, N4, Su)
 else
 bu (aI.mk IW Mm Kb) >>= fun (K2, v40) =>
 im 16 N4 ([K2] : List aU) >>= fun NT =>
 cm v40.fB v40.dy v40.db wT yh qh mi NT Su (ai (Y0 - 1)))
 else
 some (IW, Mm, Kb, wT, yh, qh, mi, N4, Su))
partial_fixpoint
def cn (Xk : List UInt8) (Xl : Int) (Vr : Bool) (vN : List aL) (Y1 : Int) : Option ((List UInt8) × Int × Bool × (List aL)) :=
 (if Y1 > 0 then
 (if Vr = true then
 some (Xk, Xl, Vr, vN)
 else
 bA (aI.mk Xk Xl Vr) >>= fun (Ax, Ge) =>
 bA Ge >>= fun (H4, v72) =>
 bA v72 >>= fun (Ka, v75) =>
 bu v75 >>= fun (ig, Gz) =>
 bu Gz >>= fun (v80, Nj) =>
 im 56 vN ([(aL.mk Ax H4 Ka ig v80)] : List aL) >>= fun Y2 =>
 cn Nj.fB Nj.dy Nj.db Y2 (ai (Y1 - 1)))
 else
 some (Xk, Xl, Vr, vN))
partial_fixpoint
def eK (a0 : aI) : Option (aC × aI) :=
 bu a0 >>= fun (v1, v2) =>
 dZ v2 >>= fun (v4, v5) =>
 dZ v5 >>= fun (v7, v8) =>
 (
 bA v8 >>= fun (oO, kK) =>
 cm kK.fB kK.dy kK.db ([] : List TParam) ([] : List TParam) ([] : List aU) ([] : List aL) ([] : List aU) ([] : List aL) oO
 : Option ((List UInt8) × Int × Bool × (List TParam) × (List TParam) × (List aU) × (List aL) × (List aU) × (List aL))) >>= fun (l10, aW, Y3, ks, jK, tl, r7, pc, tE) =>
 cG (aI.mk l10 aW Y3) >>= fun (v46, J9) =>
 (
 bA J9 >>= fun (qX, rF) =>
 cn rF.fB rF.dy rF.db tE qX
 : Option ((List UInt8) × Int × Bool × (List aL))) >>= fun (oB, sI, Mi, Sx) =>
 some ((aC.mk v1 v4 v7 pc v46 Sx), (aI.mk oB sI Mi))
theorem rf {a0 : aI} {r : aC × aI} {g1000 : Nat} (h : eK a0 = some r) : ACall Tryz.prog 37 [.aG 0 g1000 0 0] [.row g1000 3 1 81 (fun _ => a0.lit)] (fun res h => res = .agg [.str r.1.az, .own 1 0 0 r.1.av.length, .own 2 0 0 r.1.aM.length, .own 3 0 0 r.1.ay.length, .bool r.1.eN, .own 4 0 0 r.1.ax.length] ∧ h = [.row g1000 3 1 81 (fun _ => r.2.lit), .row 0 2 r.1.av.length 61 (row TParam.cells r.1.av), .row 0 2 r.1.aM.length 61 (row TParam.cells r.1.aM), .row 0 1 r.1.ay.length 9 (row cS r.1.ay), .row 0 5 r.1.ax.length 64 (row aL.cells r.1.ax)]) := by
 refine dx Tryz.func37 ?_
 unfold eK at h
 refine .d (.d ?_)
 obtain ⟨⟨v1, v2⟩, qs, h⟩ := bd h
 refine ko (bC (g1000 := g1000) qs) [0] ⟨rfl, ⟨⟩⟩ (.str v1) [.row g1000 3 1 81 (fun _ => v2.lit), .row 0 6 1 57 (fun _ => [.str [], .aq, .aq, .aq, .bool false, .aq])] ⟨rfl, _, fun _ => [.str v1, .aq, .aq, .aq, .bool false, .aq], rfl, ar rfl, (.d ?_)⟩
 obtain ⟨⟨v4, v5⟩, Ac, h⟩ := bd h
 refine ko (mY (g1000 := g1000) Ac) [0] ⟨rfl, ⟨⟩⟩ (.own 3 0 0 v4.length) [.row g1000 3 1 81 (fun _ => v5.lit), .row 0 6 1 57 (fun _ => [.str [], .aq, .aq, .aq, .bool false, .aq]), .row 0 6 1 57 (fun _ => [.str v1, .aq, .aq, .aq, .bool false, .aq]), .row 0 2 v4.length 61 (row TParam.cells v4)] ⟨rfl, ⟨rfl, _, fun _ => [.str v1, .own 3 0 0 v4.length, .aq, .aq, .bool false, .aq], rfl, ar rfl, (.d ?_)⟩⟩
 obtain ⟨⟨v7, v8⟩, KW, h⟩ := bd h
 refine ko (mY (g1000 := g1000) KW) [0] ⟨rfl, ⟨⟩⟩ (.own 4 0 0 v7.length) [.row g1000 3 1 81 (fun _ => v8.lit), .row 0 6 1 57 (fun _ => [.str [], .aq, .aq, .aq, .bool false, .aq]), .row 0 6 1 57 (fun _ => [.str v1, .own 3 0 0 v4.length, .aq, .aq, .bool false, .aq]), .row 0 2 v4.length 61 (row TParam.cells v4), .row 0 2 v7.length 61 (row TParam.cells v7)] ⟨rfl, ⟨rfl, _, fun _ => [.str v1, .own 3 0 0 v4.length, .own 4 0 0 v7.length, .aq, .bool false, .aq], rfl, ar rfl, ?_⟩⟩
 obtain ⟨MH, T6, T7⟩ := bd h
 replace h := T6
 refine .cut (fun σ η => ∃ l10, ∃ aW, ∃ Y3, ∃ ks, ∃ jK, ∃ tl, ∃ r7, ∃ pc, ∃ tE, (l10, aW, Y3, ks, jK, tl, r7, pc, tE) = MH ∧ σ = [(0, .aG 0 g1000 0 0), (2, .aG 1 0 0 0), (3, .aG 6 0 0 0)] ∧ η = [.row g1000 3 1 81 (fun _ => [sl 1 cB l10, .int .i64 aW, .bool Y3]), .row 0 6 1 57 (fun _ => [.str [], .own 2 0 0 ks.length, .own 3 0 0 jK.length, .own 4 0 0 tl.length, .bool false, .own 5 0 0 r7.length]), .row 0 2 ks.length 61 (row TParam.cells ks), .row 0 2 jK.length 61 (row TParam.cells jK), .row 0 1 tl.length 9 (row cS tl), .row 0 5 r7.length 64 (row aL.cells r7), .row 0 6 1 57 (fun _ => [.str v1, .own 7 0 0 v4.length, .own 8 0 0 v7.length, .own 9 0 0 pc.length, .bool false, .own 10 0 0 tE.length]), .row 0 2 v4.length 61 (row TParam.cells v4), .row 0 2 v7.length 61 (row TParam.cells v7), .row 0 1 pc.length 9 (row cS pc), .row 0 5 tE.length 64 (row aL.cells tE)]) ?_ ?_
 refine .d ?_
 obtain ⟨⟨oO, kK⟩, tO, h⟩ := bd h
 refine ko (bW (g1000 := g1000) tO) [0] ⟨rfl, ⟨⟩⟩ (.int .i64 oO) [.row g1000 3 1 81 (fun _ => kK.lit), .row 0 6 1 57 (fun _ => [.str [], .aq, .aq, .aq, .bool false, .aq]), .row 0 6 1 57 (fun _ => [.str v1, .own 3 0 0 v4.length, .own 4 0 0 v7.length, .aq, .bool false, .aq]), .row 0 2 v4.length 61 (row TParam.cells v4), .row 0 2 v7.length 61 (row TParam.cells v7)] ?_
 refine le (cm.partial_correctness ([] : List TParam) ([] : List TParam) ([] : List aU) ([] : List aL) ([] : List aL) (motive := fun IW Mm Kb N4 Y0 YB => MH = YB → aB _ _ [(0, .aG 0 g1000 0 0), (2, .aG 1 0 0 0), (3, .aG 6 0 0 0), (4, .int .i64 Y0)] [.row g1000 3 1 81 (fun _ => [sl 1 cB IW, .int .i64 Mm, .bool Kb]), .row 0 6 1 57 (fun _ => [.str [], .own 2 0 0 ([] : List TParam).length, .own 3 0 0 ([] : List TParam).length, .own 4 0 0 ([] : List aU).length, .bool false, .own 5 0 0 ([] : List aL).length]), .row 0 2 ([] : List TParam).length 61 (row TParam.cells ([] : List TParam)), .row 0 2 ([] : List TParam).length 61 (row TParam.cells ([] : List TParam)), .row 0 1 ([] : List aU).length 9 (row cS ([] : List aU)), .row 0 5 ([] : List aL).length 64 (row aL.cells ([] : List aL)), .row 0 6 1 57 (fun _ => [.str v1, .own 7 0 0 v4.length, .own 8 0 0 v7.length, .own 9 0 0 N4.length, .bool false, .own 10 0 0 ([] : List aL).length]), .row 0 2 v4.length 61 (row TParam.cells v4), .row 0 2 v7.length 61 (row TParam.cells v7), .row 0 1 N4.length 9 (row cS N4), .row 0 5 ([] : List aL).length 64 (row aL.cells ([] : List aL))]) ?_ kK.fB kK.dy kK.db ([] : List aU) oO MH h rfl) (tk [0, 1, 7, 8, 9, 10, 2, 3, 4, 14, 15] ⟨.p, .p, .p, .i, ⟨⟩⟩ ⟨(nA rfl), (nb rfl ⟨.s, .g, .g, .g, .b, .g, ⟨⟩⟩), gh, gh, gh, gh, (nb rfl ⟨.s, .o, .o, .g, .b, .g, ⟨⟩⟩), nw, nw, gh, gh, ⟨⟩⟩)
 intro F36 acq IW Mm Kb N4 Y0 YB h U7
 subst U7
 refine aB.round (.d (.d (sD h (fun wc h => ?_) (fun wc h => ?_))))
 refine .t ⟨rfl, (.t ⟨rfl, (.t ⟨rfl, _, rfl, (.t (.t (hB h (fun tV h => ?_) (fun tV h => ?_))))⟩)⟩)⟩
 refine .d (.float [(0, true), (1, true), (2, true), (3, false), (4, false), (5, false), (6, true), (7, false)] ahA ?_)
 refine ⟨rfl, ⟨rfl, _, rfl, ?_⟩⟩
 obtain ⟨⟨K2, v40⟩, acr, h⟩ := bd h
 exact ko (bC (g1000 := g1000) acr) [0] ⟨rfl, ⟨⟩⟩ (.str K2) [.row g1000 3 1 81 (fun _ => v40.lit), .row 0 6 1 57 (fun _ => [.str [], .own 2 0 0 ([] : List TParam).length, .own 3 0 0 ([] : List TParam).length, .own 4 0 0 ([] : List aU).length, .bool false, .own 5 0 0 ([] : List aL).length]), .row 0 2 ([] : List TParam).length 61 (row TParam.cells ([] : List TParam)), .row 0 2 ([] : List TParam).length 61 (row TParam.cells ([] : List TParam)), .row 0 1 ([] : List aU).length 9 (row cS ([] : List aU)), .row 0 5 ([] : List aL).length 64 (row aL.cells ([] : List aL)), .row 0 6 1 57 (fun _ => [.str v1, .own 7 0 0 v4.length, .own 8 0 0 v7.length, .own 9 0 0 N4.length, .bool false, .own 10 0 0 ([] : List aL).length]), .row 0 2 v4.length 61 (row TParam.cells v4), .row 0 2 v7.length 61 (row TParam.cells v7), .row 0 1 N4.length 9 (row cS N4), .row 0 5 ([] : List aL).length 64 (row aL.cells ([] : List aL))] ⟨rfl, ⟨rfl, ⟨row cS ([K2] : List aU), de cS ([K2] : List aU) rfl (cD rfl), ⟨rfl, ⟨rfl, (bk h fun NT C7 h => ⟨rfl, rfl, lI (l := ([K2] : List aU)) aS, eL C7, NT.length, row cS NT, dq C7, dB C7 aS (jr aS), ⟨rfl, ⟨rfl, _, fun _ => [.str v1, .own 7 0 0 v4.length, .own 8 0 0 v7.length, .own 9 (0 + 1) 0 NT.length, .bool false, .own 10 0 0 ([] : List aL).length], rfl, ar rfl, (lg (acq _ _ _ _ _ _ h rfl) (tk [0, 1, 2, 3, 4, 5, 6, 7, 8, 9, 10] ⟨.p, .p, .p, .i, ⟨⟩⟩ ⟨(nA rfl), (nb rfl ⟨.s, .o, .o, .o, .b, .o, ⟨⟩⟩), nw, nw, nw, nw, (nb rfl ⟨.s, .o, .o, .o, .b, .o, ⟨⟩⟩), nw, nw, nw, nw, ⟨⟩⟩))⟩⟩⟩)⟩⟩⟩⟩⟩
 exact ct ⟨_, _, _, _, _, _, _, _, _, si h, rfl, rfl⟩ (tk [0, 1, 2, 3, 4, 5, 6, 7, 8, 9, 10] ⟨.p, .p, .p, ⟨⟩⟩ ⟨(nA rfl), (nb rfl ⟨.s, .o, .o, .o, .b, .o, ⟨⟩⟩), nw, nw, nw, nw, (nb rfl ⟨.s, .o, .o, .o, .b, .o, ⟨⟩⟩), nw, nw, nw, nw, ⟨⟩⟩)
 exact .f (.f (.f (.f (.f (.f (ct ⟨_, _, _, _, _, _, _, _, _, si h, rfl, rfl⟩ (tk [0, 1, 2, 3, 4, 5, 6, 7, 8, 9, 10] ⟨.p, .p, .p, ⟨⟩⟩ ⟨(nA rfl), (nb rfl ⟨.s, .o, .o, .o, .b, .o, ⟨⟩⟩), nw, nw, nw, nw, (nb rfl ⟨.s, .o, .o, .o, .b, .o, ⟨⟩⟩), nw, nw, nw, nw, ⟨⟩⟩)))))))
 rintro _ _ ⟨l10, aW, Y3, ks, jK, tl, r7, pc, tE, rfl, rfl, rfl⟩
 replace h := T7
 refine .d ?_
 obtain ⟨⟨v46, J9⟩, IC, h⟩ := bd h
 refine ko (fY (g1000 := g1000) IC) [0] ⟨rfl, ⟨⟩⟩ (.bool v46) [.row g1000 3 1 81 (fun _ => J9.lit), .row 0 6 1 57 (fun _ => [.str [], .own 2 0 0 ks.length, .own 3 0 0 jK.length, .own 4 0 0 tl.length, .bool false, .own 5 0 0 r7.length]), .row 0 2 ks.length 61 (row TParam.cells ks), .row 0 2 jK.length 61 (row TParam.cells jK), .row 0 1 tl.length 9 (row cS tl), .row 0 5 r7.length 64 (row aL.cells r7), .row 0 6 1 57 (fun _ => [.str v1, .own 7 0 0 v4.length, .own 8 0 0 v7.length, .own 9 0 0 pc.length, .bool false, .own 10 0 0 tE.length]), .row 0 2 v4.length 61 (row TParam.cells v4), .row 0 2 v7.length 61 (row TParam.cells v7), .row 0 1 pc.length 9 (row cS pc), .row 0 5 tE.length 64 (row aL.cells tE)] ⟨rfl, ⟨rfl, _, fun _ => [.str v1, .own 7 0 0 v4.length, .own 8 0 0 v7.length, .own 9 0 0 pc.length, .bool v46, .own 10 0 0 tE.length], rfl, ar rfl, ?_⟩⟩
 obtain ⟨Sj, Uz, UA⟩ := bd h
 replace h := Uz
 refine .cut (fun σ η => ∃ oB, ∃ sI, ∃ Mi, ∃ Sx, (oB, sI, Mi, Sx) = Sj ∧ σ = [(2, .aG 1 0 0 0), (3, .aG 6 0 0 0)] ∧ η = [.row g1000 3 1 81 (fun _ => [sl 1 cB oB, .int .i64 sI, .bool Mi]), .row 0 6 1 57 (fun _ => [.str [], .own 2 0 0 ks.length, .own 3 0 0 jK.length, .own 4 0 0 tl.length, .bool false, .own 5 0 0 r7.length]), .row 0 2 ks.length 61 (row TParam.cells ks), .row 0 2 jK.length 61 (row TParam.cells jK), .row 0 1 tl.length 9 (row cS tl), .row 0 5 r7.length 64 (row aL.cells r7), .row 0 6 1 57 (fun _ => [.str v1, .own 7 0 0 v4.length, .own 8 0 0 v7.length, .own 9 0 0 pc.length, .bool v46, .own 10 0 0 Sx.length]), .row 0 2 v4.length 61 (row TParam.cells v4), .row 0 2 v7.length 61 (row TParam.cells v7), .row 0 1 pc.length 9 (row cS pc), .row 0 5 Sx.length 64 (row aL.cells Sx)]) ?_ ?_
 refine .d ?_
 obtain ⟨⟨qX, rF⟩, N5, h⟩ := bd h
 refine ko (bW (g1000 := g1000) N5) [0] ⟨rfl, ⟨⟩⟩ (.int .i64 qX) [.row g1000 3 1 81 (fun _ => rF.lit), .row 0 6 1 57 (fun _ => [.str [], .own 2 0 0 ks.length, .own 3 0 0 jK.length, .own 4 0 0 tl.length, .bool false, .own 5 0 0 r7.length]), .row 0 2 ks.length 61 (row TParam.cells ks), .row 0 2 jK.length 61 (row TParam.cells jK), .row 0 1 tl.length 9 (row cS tl), .row 0 5 r7.length 64 (row aL.cells r7), .row 0 6 1 57 (fun _ => [.str v1, .own 7 0 0 v4.length, .own 8 0 0 v7.length, .own 9 0 0 pc.length, .bool v46, .own 10 0 0 tE.length]), .row 0 2 v4.length 61 (row TParam.cells v4), .row 0 2 v7.length 61 (row TParam.cells v7), .row 0 1 pc.length 9 (row cS pc), .row 0 5 tE.length 64 (row aL.cells tE)] ?_
 refine le (cn.partial_correctness  (motive := fun Xk Xl Vr vN Y1 Sy => Sj = Sy → aB _ _ [(0, .aG 0 g1000 0 0), (2, .aG 1 0 0 0), (3, .aG 6 0 0 0), (5, .int .i64 Y1)] [.row g1000 3 1 81 (fun _ => [sl 1 cB Xk, .int .i64 Xl, .bool Vr]), .row 0 6 1 57 (fun _ => [.str [], .own 2 0 0 ks.length, .own 3 0 0 jK.length, .own 4 0 0 tl.length, .bool false, .own 5 0 0 r7.length]), .row 0 2 ks.length 61 (row TParam.cells ks), .row 0 2 jK.length 61 (row TParam.cells jK), .row 0 1 tl.length 9 (row cS tl), .row 0 5 r7.length 64 (row aL.cells r7), .row 0 6 1 57 (fun _ => [.str v1, .own 7 0 0 v4.length, .own 8 0 0 v7.length, .own 9 0 0 pc.length, .bool v46, .own 10 0 0 vN.length]), .row 0 2 v4.length 61 (row TParam.cells v4), .row 0 2 v7.length 61 (row TParam.cells v7), .row 0 1 pc.length 9 (row cS pc), .row 0 5 vN.length 64 (row aL.cells vN)]) ?_ rF.fB rF.dy rF.db tE qX Sj h rfl) (tk [0, 1, 2, 3, 4, 5, 6, 7, 8, 9, 10] ⟨.p, .p, .p, .i, ⟨⟩⟩ ⟨(nA rfl), (nb rfl ⟨.s, .o, .o, .o, .b, .o, ⟨⟩⟩), nw, nw, nw, nw, (nb rfl ⟨.s, .o, .o, .o, .b, .o, ⟨⟩⟩), nw, nw, nw, nw, ⟨⟩⟩)
 intro F65 acs Xk Xl Vr vN Y1 Sy h N6
 subst N6
 refine aB.round (.d (.d (sD h (fun acu h => ?_) (fun acu h => ?_))))
 refine .t ⟨rfl, (.t ⟨rfl, (.t ⟨rfl, _, rfl, (.t (.t (hB h (fun N7 h => ?_) (fun N7 h => ?_))))⟩)⟩)⟩
 refine .d (.d ?_)
 obtain ⟨⟨Ax, Ge⟩, Ug, h⟩ := bd h
 refine ko (bW (g1000 := g1000) Ug) [0] ⟨rfl, ⟨⟩⟩ (.int .i64 Ax) [.row g1000 3 1 81 (fun _ => Ge.lit), .row 0 6 1 57 (fun _ => [.str [], .own 2 0 0 ks.length, .own 3 0 0 jK.length, .own 4 0 0 tl.length, .bool false, .own 5 0 0 r7.length]), .row 0 2 ks.length 61 (row TParam.cells ks), .row 0 2 jK.length 61 (row TParam.cells jK), .row 0 1 tl.length 9 (row cS tl), .row 0 5 r7.length 64 (row aL.cells r7), .row 0 6 1 57 (fun _ => [.str v1, .own 7 0 0 v4.length, .own 8 0 0 v7.length, .own 9 0 0 pc.length, .bool v46, .own 10 0 0 vN.length]), .row 0 2 v4.length 61 (row TParam.cells v4), .row 0 2 v7.length 61 (row TParam.cells v7), .row 0 1 pc.length 9 (row cS pc), .row 0 5 vN.length 64 (row aL.cells vN)] ⟨rfl, _, fun _ => [.int .i64 Ax, .int .i64 0, .int .i64 0, .str [], .str []], rfl, ar rfl, (.d ?_)⟩
 obtain ⟨⟨H4, v72⟩, Uw, h⟩ := bd h
 refine ko (bW (g1000 := g1000) Uw) [0] ⟨rfl, ⟨⟩⟩ (.int .i64 H4) [.row g1000 3 1 81 (fun _ => v72.lit), .row 0 6 1 57 (fun _ => [.str [], .own 2 0 0 ks.length, .own 3 0 0 jK.length, .own 4 0 0 tl.length, .bool false, .own 5 0 0 r7.length]), .row 0 2 ks.length 61 (row TParam.cells ks), .row 0 2 jK.length 61 (row TParam.cells jK), .row 0 1 tl.length 9 (row cS tl), .row 0 5 r7.length 64 (row aL.cells r7), .row 0 6 1 57 (fun _ => [.str v1, .own 7 0 0 v4.length, .own 8 0 0 v7.length, .own 9 0 0 pc.length, .bool v46, .own 10 0 0 vN.length]), .row 0 2 v4.length 61 (row TParam.cells v4), .row 0 2 v7.length 61 (row TParam.cells v7), .row 0 1 pc.length 9 (row cS pc), .row 0 5 vN.length 64 (row aL.cells vN), .row 0 5 1 64 (fun _ => [.int .i64 Ax, .int .i64 0, .int .i64 0, .str [], .str []])] ⟨rfl, ⟨rfl, _, fun _ => [.int .i64 Ax, .int .i64 H4, .int .i64 0, .str [], .str []], rfl, ar rfl, (.d ?_)⟩⟩
 obtain ⟨⟨Ka, v75⟩, Iy, h⟩ := bd h
 refine ko (bW (g1000 := g1000) Iy) [0] ⟨rfl, ⟨⟩⟩ (.int .i64 Ka) [.row g1000 3 1 81 (fun _ => v75.lit), .row 0 6 1 57 (fun _ => [.str [], .own 2 0 0 ks.length, .own 3 0 0 jK.length, .own 4 0 0 tl.length, .bool false, .own 5 0 0 r7.length]), .row 0 2 ks.length 61 (row TParam.cells ks), .row 0 2 jK.length 61 (row TParam.cells jK), .row 0 1 tl.length 9 (row cS tl), .row 0 5 r7.length 64 (row aL.cells r7), .row 0 6 1 57 (fun _ => [.str v1, .own 7 0 0 v4.length, .own 8 0 0 v7.length, .own 9 0 0 pc.length, .bool v46, .own 10 0 0 vN.length]), .row 0 2 v4.length 61 (row TParam.cells v4), .row 0 2 v7.length 61 (row TParam.cells v7), .row 0 1 pc.length 9 (row cS pc), .row 0 5 vN.length 64 (row aL.cells vN), .row 0 5 1 64 (fun _ => [.int .i64 Ax, .int .i64 H4, .int .i64 0, .str [], .str []])] ⟨rfl, ⟨rfl, _, fun _ => [.int .i64 Ax, .int .i64 H4, .int .i64 Ka, .str [], .str []], rfl, ar rfl, (.d ?_)⟩⟩
 obtain ⟨⟨ig, Gz⟩, Vs, h⟩ := bd h
 refine ko (bC (g1000 := g1000) Vs) [0] ⟨rfl, ⟨⟩⟩ (.str ig) [.row g1000 3 1 81 (fun _ => Gz.lit), .row 0 6 1 57 (fun _ => [.str [], .own 2 0 0 ks.length, .own 3 0 0 jK.length, .own 4 0 0 tl.length, .bool false, .own 5 0 0 r7.length]), .row 0 2 ks.length 61 (row TParam.cells ks), .row 0 2 jK.length 61 (row TParam.cells jK), .row 0 1 tl.length 9 (row cS tl), .row 0 5 r7.length 64 (row aL.cells r7), .row 0 6 1 57 (fun _ => [.str v1, .own 7 0 0 v4.length, .own 8 0 0 v7.length, .own 9 0 0 pc.length, .bool v46, .own 10 0 0 vN.length]), .row 0 2 v4.length 61 (row TParam.cells v4), .row 0 2 v7.length 61 (row TParam.cells v7), .row 0 1 pc.length 9 (row cS pc), .row 0 5 vN.length 64 (row aL.cells vN), .row 0 5 1 64 (fun _ => [.int .i64 Ax, .int .i64 H4, .int .i64 Ka, .str [], .str []])] ⟨rfl, ⟨rfl, _, fun _ => [.int .i64 Ax, .int .i64 H4, .int .i64 Ka, .str ig, .str []], rfl, ar rfl, (.d ?_)⟩⟩
 obtain ⟨⟨v80, Nj⟩, acv, h⟩ := bd h
 exact ko (bC (g1000 := g1000) acv) [0] ⟨rfl, ⟨⟩⟩ (.str v80) [.row g1000 3 1 81 (fun _ => Nj.lit), .row 0 6 1 57 (fun _ => [.str [], .own 2 0 0 ks.length, .own 3 0 0 jK.length, .own 4 0 0 tl.length, .bool false, .own 5 0 0 r7.length]), .row 0 2 ks.length 61 (row TParam.cells ks), .row 0 2 jK.length 61 (row TParam.cells jK), .row 0 1 tl.length 9 (row cS tl), .row 0 5 r7.length 64 (row aL.cells r7), .row 0 6 1 57 (fun _ => [.str v1, .own 7 0 0 v4.length, .own 8 0 0 v7.length, .own 9 0 0 pc.length, .bool v46, .own 10 0 0 vN.length]), .row 0 2 v4.length 61 (row TParam.cells v4), .row 0 2 v7.length 61 (row TParam.cells v7), .row 0 1 pc.length 9 (row cS pc), .row 0 5 vN.length 64 (row aL.cells vN), .row 0 5 1 64 (fun _ => [.int .i64 Ax, .int .i64 H4, .int .i64 Ka, .str ig, .str []])] ⟨rfl, ⟨rfl, _, fun _ => [.int .i64 Ax, .int .i64 H4, .int .i64 Ka, .str ig, .str v80], rfl, ar rfl, ⟨rfl, ⟨rfl, _, rfl, ⟨rfl, _, rfl, ⟨row aL.cells ([(aL.mk Ax H4 Ka ig v80)] : List aL), de aL.cells ([(aL.mk Ax H4 Ka ig v80)] : List aL) rfl (cD rfl), (bk h fun Y2 Vt h => ⟨rfl, rfl, lI (l := ([(aL.mk Ax H4 Ka ig v80)] : List aL)) aS, eL Vt, Y2.length, row aL.cells Y2, dq Vt, dB Vt aS (jr aS), ⟨rfl, ⟨rfl, _, fun _ => [.str v1, .own 7 0 0 v4.length, .own 8 0 0 v7.length, .own 9 0 0 pc.length, .bool v46, .own 10 (0 + 1) 0 Y2.length], rfl, ar rfl, (lg (acs _ _ _ _ _ _ h rfl) (tk [0, 1, 2, 3, 4, 5, 6, 7, 8, 9, 10] ⟨.p, .p, .p, .i, ⟨⟩⟩ ⟨(nA rfl), (nb rfl ⟨.s, .o, .o, .o, .b, .o, ⟨⟩⟩), nw, nw, nw, nw, (nb rfl ⟨.s, .o, .o, .o, .b, .o, ⟨⟩⟩), nw, nw, nw, nw, ⟨⟩⟩))⟩⟩⟩)⟩⟩⟩⟩⟩⟩
 exact ct ⟨_, _, _, _, si h, rfl, rfl⟩ (tk [0, 1, 2, 3, 4, 5, 6, 7, 8, 9, 10] ⟨.p, .p, ⟨⟩⟩ ⟨(nA rfl), (nb rfl ⟨.s, .o, .o, .o, .b, .o, ⟨⟩⟩), nw, nw, nw, nw, (nb rfl ⟨.s, .o, .o, .o, .b, .o, ⟨⟩⟩), nw, nw, nw, nw, ⟨⟩⟩)
 exact .f (.f (.f (.f (.f (.f (ct ⟨_, _, _, _, si h, rfl, rfl⟩ (tk [0, 1, 2, 3, 4, 5, 6, 7, 8, 9, 10] ⟨.p, .p, ⟨⟩⟩ ⟨(nA rfl), (nb rfl ⟨.s, .o, .o, .o, .b, .o, ⟨⟩⟩), nw, nw, nw, nw, (nb rfl ⟨.s, .o, .o, .o, .b, .o, ⟨⟩⟩), nw, nw, nw, nw, ⟨⟩⟩)))))))
 rintro _ _ ⟨oB, sI, Mi, Sx, rfl, rfl, rfl⟩
 replace h := UA
 refine .d ⟨rfl, _, rfl, ⟨rfl, _, fun _ => [.str v1, .own 7 0 0 v4.length, .own 8 0 0 v7.length, .own 9 0 0 pc.length, .bool v46, .own 10 0 0 Sx.length], rfl, ar rfl, ?_⟩⟩
 obtain rfl := si h
 exact ⟨rfl, _, rfl, (en [0, 7, 8, 9, 10] ⟨rfl, rfl⟩ (.bD ⟨.s, .o, .o, .o, .b, .o, ⟨⟩⟩) ⟨(ob rfl ⟨.l, .i, .b, ⟨⟩⟩), nw, nw, nw, nw, ⟨⟩⟩)⟩
def bR (E0 : List UInt8) (Xm : Int) (Vu : Bool) (Km : List au) (qh : List aj) (mi : List au) (wU : List aj) (Kl : Int) : Option ((List UInt8) × Int × Bool × (List au) × (List aj) × (List au) × (List aj)) :=
 (if Kl > 0 then
 (if Vu = true then
 some (E0, Xm, Vu, Km, qh, mi, wU)
 else
 bu (aI.mk E0 Xm Vu) >>= fun (v40, pn) =>
 bu pn >>= fun (mT, Qb) =>
 cG Qb >>= fun (v46, J9) =>
 bu J9 >>= fun (v49, vz) =>
 er v49 >>= fun (bT, v53) =>
 (if vz.db = true then
 im 104 mi [(au.mk v40 mT v46 bT)] >>= fun Sz =>
 bR vz.fB vz.dy true Km qh Sz wU (ai (Kl - 1))
 else
 im 104 mi [(au.mk v40 mT v46 bT)] >>= fun vN =>
 bR vz.fB vz.dy (!v53) Km qh vN wU (ai (Kl - 1))))
 else
 some (E0, Xm, Vu, Km, qh, mi, wU))
partial_fixpoint
def cO (Ml : List UInt8) (Xn : Int) (Vv : Bool) (BE : List aj) (Y4 : Int) : Option ((List UInt8) × Int × Bool × (List aj)) :=
 (if Y4 > 0 then
 (if Vv = true then
 some (Ml, Xn, Vv, BE)
 else
 bu (aI.mk Ml Xn Vv) >>= fun (v87, pQ) =>
 bu pQ >>= fun (Lp, v91) =>
 bu v91 >>= fun (v93, W9) =>
 cG W9 >>= fun (QT, v97) =>
 cG v97 >>= fun (Vw, IH) =>
 im 56 BE ([(aj.mk v87 Lp v93 QT Vw)] : List aj) >>= fun N8 =>
 cO IH.fB IH.dy IH.db N8 (ai (Y4 - 1)))
 else
 some (Ml, Xn, Vv, BE))
partial_fixpoint
def fZ (a0 : aI) : Option (aw × aI) :=
 bu a0 >>= fun (v1, v2) =>
 bu v2 >>= fun (v4, v5) =>
 (
 bA v5 >>= fun (v21, oO) =>
 bR oO.fB oO.dy oO.db ([] : List au) ([] : List aj) ([] : List au) ([] : List aj) v21
 : Option ((List UInt8) × Int × Bool × (List au) × (List aj) × (List au) × (List aj))) >>= fun (l7, y8, b9, l10, ks, jK, pc) =>
 (
 bA (aI.mk l7 y8 b9) >>= fun (v75, v76) =>
 cO v76.fB v76.dy v76.db pc v75
 : Option ((List UInt8) × Int × Bool × (List aj))) >>= fun (IA, Y5, Nk, SA) =>
 some ((aw.mk v1 v4 jK SA), (aI.mk IA Y5 Nk))
theorem tF {a0 : aI} {r : aw × aI} {g1000 : Nat} (h : fZ a0 = some r) : ACall Tryz.prog 38 [.aG 0 g1000 0 0] [.row g1000 3 1 81 (fun _ => a0.lit)] (fun res h => ∃ F1 : Nat → List PV, DR au.D r.1.aH.length F1 r.1.aH ∧ res = .agg [.str r.1.az, .str r.1.dp, .own 1 0 0 r.1.aH.length, .own 2 0 0 r.1.aE.length] ∧ h = [.row g1000 3 1 81 (fun _ => r.2.lit), .row 0 8 r.1.aH.length 99 F1, .row 0 5 r.1.aE.length 106 (row aj.cells r.1.aE)]) := by
 refine dx Tryz.func38 ?_
 unfold fZ at h
 refine .d (.d ?_)
 obtain ⟨⟨v1, v2⟩, qs, h⟩ := bd h
 refine ko (bC (g1000 := g1000) qs) [0] ⟨rfl, ⟨⟩⟩ (.str v1) [.row g1000 3 1 81 (fun _ => v2.lit), .row 0 4 1 68 (fun _ => [.str [], .str [], .aq, .aq])] ⟨rfl, _, fun _ => [.str v1, .str [], .aq, .aq], rfl, ar rfl, (.d ?_)⟩
 obtain ⟨⟨v4, v5⟩, Ac, h⟩ := bd h
 refine ko (bC (g1000 := g1000) Ac) [0] ⟨rfl, ⟨⟩⟩ (.str v4) [.row g1000 3 1 81 (fun _ => v5.lit), .row 0 4 1 68 (fun _ => [.str [], .str [], .aq, .aq]), .row 0 4 1 68 (fun _ => [.str v1, .str [], .aq, .aq])] ⟨rfl, ⟨rfl, _, fun _ => [.str v1, .str v4, .aq, .aq], rfl, ar rfl, ?_⟩⟩
 obtain ⟨HX, MY, MZ⟩ := bd h
 replace h := MY
 refine .cut (fun σ η => ∃ l7, ∃ y8, ∃ b9, ∃ l10, ∃ ks, ∃ jK, ∃ pc, ∃ f11 : Nat → List PV, ∃ f15 : Nat → List PV, DR au.D l10.length f11 l10 ∧ DR au.D jK.length f15 jK ∧ (l7, y8, b9, l10, ks, jK, pc) = HX ∧ σ = [(0, .aG 0 g1000 0 0), (2, .aG 1 0 0 0), (3, .aG 4 0 0 0)] ∧ η = [.row g1000 3 1 81 (fun _ => [sl 1 cB l7, .int .i64 y8, .bool b9]), .row 0 4 1 68 (fun _ => [.str [], .str [], .own 2 0 0 l10.length, .own 3 0 0 ks.length]), .row 0 8 l10.length 99 f11, .row 0 5 ks.length 106 (row aj.cells ks), .row 0 4 1 68 (fun _ => [.str v1, .str v4, .own 5 0 0 jK.length, .own 6 0 0 pc.length]), .row 0 8 jK.length 99 f15, .row 0 5 pc.length 106 (row aj.cells pc)]) ?_ ?_
 refine .d ?_
 obtain ⟨⟨v21, oO⟩, yp, h⟩ := bd h
 refine ko (bW (g1000 := g1000) yp) [0] ⟨rfl, ⟨⟩⟩ (.int .i64 v21) [.row g1000 3 1 81 (fun _ => oO.lit), .row 0 4 1 68 (fun _ => [.str [], .str [], .aq, .aq]), .row 0 4 1 68 (fun _ => [.str v1, .str v4, .aq, .aq])] ?_
 refine le (bR.partial_correctness ([] : List au) ([] : List aj) ([] : List aj) (motive := fun E0 Xm Vu mi Kl o66 => ∀ f28 : Nat → List PV, ∀ f32 : Nat → List PV, DR au.D ([] : List au).length f28 ([] : List au) → DR au.D mi.length f32 mi → HX = o66 → aB _ _ [(0, .aG 0 g1000 0 0), (2, .aG 1 0 0 0), (3, .aG 4 0 0 0), (4, .int .i64 Kl)] [.row g1000 3 1 81 (fun _ => [sl 1 cB E0, .int .i64 Xm, .bool Vu]), .row 0 4 1 68 (fun _ => [.str [], .str [], .own 2 0 0 ([] : List au).length, .own 3 0 0 ([] : List aj).length]), .row 0 8 ([] : List au).length 99 f28, .row 0 5 ([] : List aj).length 106 (row aj.cells ([] : List aj)), .row 0 4 1 68 (fun _ => [.str v1, .str v4, .own 5 0 0 mi.length, .own 6 0 0 ([] : List aj).length]), .row 0 8 mi.length 99 f32, .row 0 5 ([] : List aj).length 106 (row aj.cells ([] : List aj))]) ?_ oO.fB oO.dy oO.db ([] : List au) v21 HX h (fun _ => []) (fun _ => []) (DR.nil (D := au.D)) (DR.nil (D := au.D)) rfl) (tk [0, 1, 5, 6, 2, 8, 9] ⟨.p, .p, .p, .i, ⟨⟩⟩ ⟨(nA rfl), (nb rfl ⟨.s, .s, .g, .g, ⟨⟩⟩), gh, gh, (nb rfl ⟨.s, .s, .g, .g, ⟨⟩⟩), gh, gh, ⟨⟩⟩)
 intro KZ Y6 E0 Xm Vu mi Kl o66 h f28 f32 d29 d33 acw
 subst acw
 refine aB.round (.d (.d (sD h (fun tV h => ?_) (fun tV h => ?_))))
 refine .t ⟨rfl, (.t ⟨rfl, (.t ⟨rfl, _, rfl, (.t (.t (hB h (fun pK h => ?_) (fun pK h => ?_))))⟩)⟩)⟩
 refine .d (.d ?_)
 obtain ⟨⟨v40, pn⟩, Ba, h⟩ := bd h
 refine ko (bC (g1000 := g1000) Ba) [0] ⟨rfl, ⟨⟩⟩ (.str v40) [.row g1000 3 1 81 (fun _ => pn.lit), .row 0 4 1 68 (fun _ => [.str [], .str [], .own 2 0 0 ([] : List au).length, .own 3 0 0 ([] : List aj).length]), .row 0 8 ([] : List au).length 99 f28, .row 0 5 ([] : List aj).length 106 (row aj.cells ([] : List aj)), .row 0 4 1 68 (fun _ => [.str v1, .str v4, .own 5 0 0 mi.length, .own 6 0 0 ([] : List aj).length]), .row 0 8 mi.length 99 f32, .row 0 5 ([] : List aj).length 106 (row aj.cells ([] : List aj))] ⟨rfl, _, fun _ => [.str v40, .str [], .bool false, .int .i64 0, .int .i64 0, .str [], .int .i64 0, .aq], rfl, ar rfl, (.d ?_)⟩
 obtain ⟨⟨mT, Qb⟩, U3, h⟩ := bd h
 refine ko (bC (g1000 := g1000) U3) [0] ⟨rfl, ⟨⟩⟩ (.str mT) [.row g1000 3 1 81 (fun _ => Qb.lit), .row 0 4 1 68 (fun _ => [.str [], .str [], .own 2 0 0 ([] : List au).length, .own 3 0 0 ([] : List aj).length]), .row 0 8 ([] : List au).length 99 f28, .row 0 5 ([] : List aj).length 106 (row aj.cells ([] : List aj)), .row 0 4 1 68 (fun _ => [.str v1, .str v4, .own 5 0 0 mi.length, .own 6 0 0 ([] : List aj).length]), .row 0 8 mi.length 99 f32, .row 0 5 ([] : List aj).length 106 (row aj.cells ([] : List aj)), .row 0 8 1 99 (fun _ => [.str v40, .str [], .bool false, .int .i64 0, .int .i64 0, .str [], .int .i64 0, .aq])] ⟨rfl, ⟨rfl, _, fun _ => [.str v40, .str mT, .bool false, .int .i64 0, .int .i64 0, .str [], .int .i64 0, .aq], rfl, ar rfl, (.d ?_)⟩⟩
 obtain ⟨⟨v46, J9⟩, IC, h⟩ := bd h
 refine ko (fY (g1000 := g1000) IC) [0] ⟨rfl, ⟨⟩⟩ (.bool v46) [.row g1000 3 1 81 (fun _ => J9.lit), .row 0 4 1 68 (fun _ => [.str [], .str [], .own 2 0 0 ([] : List au).length, .own 3 0 0 ([] : List aj).length]), .row 0 8 ([] : List au).length 99 f28, .row 0 5 ([] : List aj).length 106 (row aj.cells ([] : List aj)), .row 0 4 1 68 (fun _ => [.str v1, .str v4, .own 5 0 0 mi.length, .own 6 0 0 ([] : List aj).length]), .row 0 8 mi.length 99 f32, .row 0 5 ([] : List aj).length 106 (row aj.cells ([] : List aj)), .row 0 8 1 99 (fun _ => [.str v40, .str mT, .bool false, .int .i64 0, .int .i64 0, .str [], .int .i64 0, .aq])] ⟨rfl, ⟨rfl, _, fun _ => [.str v40, .str mT, .bool v46, .int .i64 0, .int .i64 0, .str [], .int .i64 0, .aq], rfl, ar rfl, (.d ?_)⟩⟩
 obtain ⟨⟨v49, vz⟩, NW, h⟩ := bd h
 refine ko (bC (g1000 := g1000) NW) [0] ⟨rfl, ⟨⟩⟩ (.str v49) [.row g1000 3 1 81 (fun _ => vz.lit), .row 0 4 1 68 (fun _ => [.str [], .str [], .own 2 0 0 ([] : List au).length, .own 3 0 0 ([] : List aj).length]), .row 0 8 ([] : List au).length 99 f28, .row 0 5 ([] : List aj).length 106 (row aj.cells ([] : List aj)), .row 0 4 1 68 (fun _ => [.str v1, .str v4, .own 5 0 0 mi.length, .own 6 0 0 ([] : List aj).length]), .row 0 8 mi.length 99 f32, .row 0 5 ([] : List aj).length 106 (row aj.cells ([] : List aj)), .row 0 8 1 99 (fun _ => [.str v40, .str mT, .bool v46, .int .i64 0, .int .i64 0, .str [], .int .i64 0, .aq])] ?_
 obtain ⟨⟨bT, v53⟩, Ff, h⟩ := bd h
 refine Y7 (yM Ff) ?_
 rintro _ _ ⟨f55, d56, rfl, rfl⟩
 refine ⟨.fu [.agg [.int .i64 bT.aF, .int .i64 bT.aP, .str bT.aQ, .int .i64 bT.aO, .own 8 0 0 bT.af.length], .bool v53], [.row g1000 3 1 81 (fun _ => vz.lit), .row 0 4 1 68 (fun _ => [.str [], .str [], .own 2 0 0 ([] : List au).length, .own 3 0 0 ([] : List aj).length]), .row 0 8 ([] : List au).length 99 f28, .row 0 5 ([] : List aj).length 106 (row aj.cells ([] : List aj)), .row 0 4 1 68 (fun _ => [.str v1, .str v4, .own 5 0 0 mi.length, .own 6 0 0 ([] : List aj).length]), .row 0 8 mi.length 99 f32, .row 0 5 ([] : List aj).length 106 (row aj.cells ([] : List aj)), .row 0 8 1 99 (fun _ => [.str v40, .str mT, .bool v46, .int .i64 0, .int .i64 0, .str [], .int .i64 0, .aq]), .row 0 8 bT.af.length 197 f55], rfl, (by simp only [aec, aep, shr, Y8 d56]; rfl), ⟨rfl, _, fun _ => [.int .i64 bT.aF, .int .i64 bT.aP, .str bT.aQ, .int .i64 bT.aO, .own 8 0 0 bT.af.length], rfl, ar rfl, (.d ⟨rfl, _, rfl, ⟨rfl, ⟨rfl, _, fun _ => [.str v40, .str mT, .bool v46, .int .i64 bT.aF, .int .i64 bT.aP, .str bT.aQ, .int .i64 bT.aO, .own 8 0 0 bT.af.length], rfl, ar rfl, (.d ⟨rfl, ⟨rfl, ⟨rfl, _, rfl, (sV h (fun Nq h => ?_) (fun Nq h => ?_))⟩⟩⟩)⟩⟩⟩)⟩⟩
 refine .t (.t ⟨rfl, ⟨rfl, ⟨rfl, _, fun _ => [sl 1 cB vz.fB, .int .i64 vz.dy, .bool true], rfl, ar rfl, ⟨rfl, ⟨rfl, _, rfl, ⟨rfl, _, rfl, ⟨fun _ => [.str v40, .str mT, .bool v46, .int .i64 bT.aF, .int .i64 bT.aP, .str bT.aQ, .int .i64 bT.aO, .own 8 0 0 bT.af.length], xn, (bk h fun Sz N9 h => ⟨rfl, rfl, (fun _ _ => rfl), DR.YX d33 N9, Sz.length, bx f32 mi.length [.str v40, .str mT, .bool v46, .int .i64 bT.aF, .int .i64 bT.aP, .str bT.aQ, .int .i64 bT.aO, .own 8 0 0 bT.af.length], DR.ln d33 N9, xo (DR.ln d33 N9) ⟨.same _, .same _, .same _, .same _, .same _, .same _, .same _, .same _, trivial⟩, ⟨rfl, ⟨rfl, _, fun _ => [.str v1, .str v4, .own 5 (0 + 1) 0 Sz.length, .own 6 0 0 ([] : List aj).length], rfl, ar rfl, (.ab 5 mi.length 7 8 (fun QO => [.row g1000 3 1 81 (fun _ => [sl 1 cB vz.fB, .int .i64 vz.dy, .bool true]), .row 0 4 1 68 (fun _ => [.str [], .str [], .own 2 0 0 ([] : List au).length, .own 3 0 0 ([] : List aj).length]), .row 0 8 ([] : List au).length 99 f28, .row 0 5 ([] : List aj).length 106 (row aj.cells ([] : List aj)), .row 0 4 1 68 (fun _ => [.str v1, .str v4, .own 5 (0 + 1) 0 Sz.length, .own 6 0 0 ([] : List aj).length]), .row (0 + 1) 8 Sz.length 99 (bx f32 mi.length [.str v40, .str mT, .bool v46, .int .i64 bT.aF, .int .i64 bT.aP, .str bT.aQ, .int .i64 bT.aO, .bf 8 bT.af.length 197 f55 QO]), .row 0 5 ([] : List aj).length 106 (row aj.cells ([] : List aj)), .row 0 8 1 99 (fun _ => [.str v40, .str mT, .bool v46, .int .i64 bT.aF, .int .i64 bT.aP, .str bT.aQ, .int .i64 bT.aO, .own 8 0 0 bT.af.length]), .dead, .row 0 5 1 97 (fun _ => [.int .i64 bT.aF, .int .i64 bT.aP, .str bT.aQ, .int .i64 bT.aO, .own 8 0 0 bT.af.length]), .row 0 8 1 99 (fun _ => [.str v40, .str mT, .bool v46, .int .i64 bT.aF, .int .i64 bT.aP, .str bT.aQ, .int .i64 bT.aO, .own 8 0 0 bT.af.length])]) (fun QO => tS [.str v40, .str mT, .bool v46, .int .i64 bT.aF, .int .i64 bT.aP, .str bT.aQ, .int .i64 bT.aO, .own 8 0 0 bT.af.length] [.str v40, .str mT, .bool v46, .int .i64 bT.aF, .int .i64 bT.aP, .str bT.aQ, .int .i64 bT.aO, .bf 8 bT.af.length 197 f55 QO] (bx f32 mi.length [.str v40, .str mT, .bool v46, .int .i64 bT.aF, .int .i64 bT.aP, .str bT.aQ, .int .i64 bT.aO, .bf 8 bT.af.length 197 f55 QO]) (DR.lq d33 N9) aT aT eo (d56).po rfl rfl rfl rfl ahx rfl) fun QO => ?_)⟩⟩⟩)⟩⟩⟩⟩⟩⟩⟩)
 have d61 : DR au.D Sz.length (bx f32 mi.length [.str v40, .str mT, .bool v46, .int .i64 bT.aF, .int .i64 bT.aP, .str bT.aQ, .int .i64 bT.aO, .bf 8 bT.af.length 197 f55 QO]) Sz := DR.N2 d33 N9 (au.Ad (x := (au.mk v40 mT v46 bT)) d56 : au.D [.str v40, .str mT, .bool v46, .int .i64 bT.aF, .int .i64 bT.aP, .str bT.aQ, .int .i64 bT.aO, .bf 8 bT.af.length 197 f55 QO] (au.mk v40 mT v46 bT))
 exact lg (Y6 _ _ _ _ _ _ h f28 (bx f32 mi.length [.str v40, .str mT, .bool v46, .int .i64 bT.aF, .int .i64 bT.aP, .str bT.aQ, .int .i64 bT.aO, .bf 8 bT.af.length 197 f55 QO]) d29 d61 rfl) (tk [0, 1, 2, 3, 4, 5, 6] ⟨.p, .p, .p, .i, ⟨⟩⟩ ⟨(nA rfl), (nb rfl ⟨.s, .s, (.od ahP), .o, ⟨⟩⟩), (lv d29), nw, (nb rfl ⟨.s, .s, (.od (by first | rfl | exact d61.len | exact d61.len.symm)), .o, ⟨⟩⟩), (lv d61), nw, ⟨⟩⟩)
 refine .f (.f ⟨rfl, ⟨rfl, ⟨rfl, _, fun _ => [sl 1 cB vz.fB, .int .i64 vz.dy, .bool (!v53)], rfl, ar rfl, ⟨rfl, ⟨rfl, _, rfl, ⟨rfl, _, rfl, ⟨fun _ => [.str v40, .str mT, .bool v46, .int .i64 bT.aF, .int .i64 bT.aP, .str bT.aQ, .int .i64 bT.aO, .own 8 0 0 bT.af.length], xn, (bk h fun vN Oa h => ⟨rfl, rfl, (fun _ _ => rfl), DR.YX d33 Oa, vN.length, bx f32 mi.length [.str v40, .str mT, .bool v46, .int .i64 bT.aF, .int .i64 bT.aP, .str bT.aQ, .int .i64 bT.aO, .own 8 0 0 bT.af.length], DR.ln d33 Oa, xo (DR.ln d33 Oa) ⟨.same _, .same _, .same _, .same _, .same _, .same _, .same _, .same _, trivial⟩, ⟨rfl, ⟨rfl, _, fun _ => [.str v1, .str v4, .own 5 (0 + 1) 0 vN.length, .own 6 0 0 ([] : List aj).length], rfl, ar rfl, (.ab 5 mi.length 7 8 (fun SB => [.row g1000 3 1 81 (fun _ => [sl 1 cB vz.fB, .int .i64 vz.dy, .bool (!v53)]), .row 0 4 1 68 (fun _ => [.str [], .str [], .own 2 0 0 ([] : List au).length, .own 3 0 0 ([] : List aj).length]), .row 0 8 ([] : List au).length 99 f28, .row 0 5 ([] : List aj).length 106 (row aj.cells ([] : List aj)), .row 0 4 1 68 (fun _ => [.str v1, .str v4, .own 5 (0 + 1) 0 vN.length, .own 6 0 0 ([] : List aj).length]), .row (0 + 1) 8 vN.length 99 (bx f32 mi.length [.str v40, .str mT, .bool v46, .int .i64 bT.aF, .int .i64 bT.aP, .str bT.aQ, .int .i64 bT.aO, .bf 8 bT.af.length 197 f55 SB]), .row 0 5 ([] : List aj).length 106 (row aj.cells ([] : List aj)), .row 0 8 1 99 (fun _ => [.str v40, .str mT, .bool v46, .int .i64 bT.aF, .int .i64 bT.aP, .str bT.aQ, .int .i64 bT.aO, .own 8 0 0 bT.af.length]), .dead, .row 0 5 1 97 (fun _ => [.int .i64 bT.aF, .int .i64 bT.aP, .str bT.aQ, .int .i64 bT.aO, .own 8 0 0 bT.af.length]), .row 0 8 1 99 (fun _ => [.str v40, .str mT, .bool v46, .int .i64 bT.aF, .int .i64 bT.aP, .str bT.aQ, .int .i64 bT.aO, .own 8 0 0 bT.af.length])]) (fun SB => tS [.str v40, .str mT, .bool v46, .int .i64 bT.aF, .int .i64 bT.aP, .str bT.aQ, .int .i64 bT.aO, .own 8 0 0 bT.af.length] [.str v40, .str mT, .bool v46, .int .i64 bT.aF, .int .i64 bT.aP, .str bT.aQ, .int .i64 bT.aO, .bf 8 bT.af.length 197 f55 SB] (bx f32 mi.length [.str v40, .str mT, .bool v46, .int .i64 bT.aF, .int .i64 bT.aP, .str bT.aQ, .int .i64 bT.aO, .bf 8 bT.af.length 197 f55 SB]) (DR.lq d33 Oa) aT aT eo (d56).po rfl rfl rfl rfl ahx rfl) fun SB => ?_)⟩⟩⟩)⟩⟩⟩⟩⟩⟩⟩)
 have d65 : DR au.D vN.length (bx f32 mi.length [.str v40, .str mT, .bool v46, .int .i64 bT.aF, .int .i64 bT.aP, .str bT.aQ, .int .i64 bT.aO, .bf 8 bT.af.length 197 f55 SB]) vN := DR.N2 d33 Oa (au.Ad (x := (au.mk v40 mT v46 bT)) d56 : au.D [.str v40, .str mT, .bool v46, .int .i64 bT.aF, .int .i64 bT.aP, .str bT.aQ, .int .i64 bT.aO, .bf 8 bT.af.length 197 f55 SB] (au.mk v40 mT v46 bT))
 exact lg (Y6 _ _ _ _ _ _ h f28 (bx f32 mi.length [.str v40, .str mT, .bool v46, .int .i64 bT.aF, .int .i64 bT.aP, .str bT.aQ, .int .i64 bT.aO, .bf 8 bT.af.length 197 f55 SB]) d29 d65 rfl) (tk [0, 1, 2, 3, 4, 5, 6] ⟨.p, .p, .p, .i, ⟨⟩⟩ ⟨(nA rfl), (nb rfl ⟨.s, .s, (.od ahP), .o, ⟨⟩⟩), (lv d29), nw, (nb rfl ⟨.s, .s, (.od (by first | rfl | exact d65.len | exact d65.len.symm)), .o, ⟨⟩⟩), (lv d65), nw, ⟨⟩⟩)
 exact ct ⟨_, _, _, _, _, _, _, f28, f32, d29, d33, si h, rfl, rfl⟩ (tk [0, 1, 2, 3, 4, 5, 6] ⟨.p, .p, .p, ⟨⟩⟩ ⟨(nA rfl), (nb rfl ⟨.s, .s, (.od ahP), .o, ⟨⟩⟩), (lv d29), nw, (nb rfl ⟨.s, .s, (.od ahM), .o, ⟨⟩⟩), (lv d33), nw, ⟨⟩⟩)
 exact .f (.f (.f (.f (.f (.f (ct ⟨_, _, _, _, _, _, _, f28, f32, d29, d33, si h, rfl, rfl⟩ (tk [0, 1, 2, 3, 4, 5, 6] ⟨.p, .p, .p, ⟨⟩⟩ ⟨(nA rfl), (nb rfl ⟨.s, .s, (.od ahP), .o, ⟨⟩⟩), (lv d29), nw, (nb rfl ⟨.s, .s, (.od ahM), .o, ⟨⟩⟩), (lv d33), nw, ⟨⟩⟩)))))))
 rintro _ _ ⟨l7, y8, b9, l10, ks, jK, pc, f11, f15, d12, d16, rfl, rfl, rfl⟩
 replace h := MZ
 obtain ⟨X1, Uh, Ui⟩ := bd h
 replace h := Uh
 refine .cut (fun σ η => ∃ IA, ∃ Y5, ∃ Nk, ∃ SA, (IA, Y5, Nk, SA) = X1 ∧ σ = [(2, .aG 1 0 0 0), (3, .aG 4 0 0 0)] ∧ η = [.row g1000 3 1 81 (fun _ => [sl 1 cB IA, .int .i64 Y5, .bool Nk]), .row 0 4 1 68 (fun _ => [.str [], .str [], .own 2 0 0 l10.length, .own 3 0 0 ks.length]), .row 0 8 l10.length 99 f11, .row 0 5 ks.length 106 (row aj.cells ks), .row 0 4 1 68 (fun _ => [.str v1, .str v4, .own 5 0 0 jK.length, .own 6 0 0 SA.length]), .row 0 8 jK.length 99 f15, .row 0 5 SA.length 106 (row aj.cells SA)]) ?_ ?_
 refine .d ?_
 obtain ⟨⟨v75, v76⟩, Vb, h⟩ := bd h
 refine ko (bW (g1000 := g1000) Vb) [0] ⟨rfl, ⟨⟩⟩ (.int .i64 v75) [.row g1000 3 1 81 (fun _ => v76.lit), .row 0 4 1 68 (fun _ => [.str [], .str [], .own 2 0 0 l10.length, .own 3 0 0 ks.length]), .row 0 8 l10.length 99 f11, .row 0 5 ks.length 106 (row aj.cells ks), .row 0 4 1 68 (fun _ => [.str v1, .str v4, .own 5 0 0 jK.length, .own 6 0 0 pc.length]), .row 0 8 jK.length 99 f15, .row 0 5 pc.length 106 (row aj.cells pc)] ?_
 refine le (cO.partial_correctness  (motive := fun Ml Xn Vv BE Y4 Y9 => X1 = Y9 → aB _ _ [(0, .aG 0 g1000 0 0), (2, .aG 1 0 0 0), (3, .aG 4 0 0 0), (8, .int .i64 Y4)] [.row g1000 3 1 81 (fun _ => [sl 1 cB Ml, .int .i64 Xn, .bool Vv]), .row 0 4 1 68 (fun _ => [.str [], .str [], .own 2 0 0 l10.length, .own 3 0 0 ks.length]), .row 0 8 l10.length 99 f11, .row 0 5 ks.length 106 (row aj.cells ks), .row 0 4 1 68 (fun _ => [.str v1, .str v4, .own 5 0 0 jK.length, .own 6 0 0 BE.length]), .row 0 8 jK.length 99 f15, .row 0 5 BE.length 106 (row aj.cells BE)]) ?_ v76.fB v76.dy v76.db pc v75 X1 h rfl) (tk [0, 1, 2, 3, 4, 5, 6] ⟨.p, .p, .p, .i, ⟨⟩⟩ ⟨(nA rfl), (nb rfl ⟨.s, .s, (.od ahE), .o, ⟨⟩⟩), (lv d12), nw, (nb rfl ⟨.s, .s, (.od ahN), .o, ⟨⟩⟩), (lv d16), nw, ⟨⟩⟩)
 intro Lq acx Ml Xn Vv BE Y4 Y9 h Za
 subst Za
 refine aB.round (.d (.d (sD h (fun Uk h => ?_) (fun Uk h => ?_))))
 refine .t ⟨rfl, (.t ⟨rfl, (.t ⟨rfl, _, rfl, (.t (.t (hB h (fun Na h => ?_) (fun Na h => ?_))))⟩)⟩)⟩
 refine .d (.d ?_)
 obtain ⟨⟨v87, pQ⟩, acy, h⟩ := bd h
 refine ko (bC (g1000 := g1000) acy) [0] ⟨rfl, ⟨⟩⟩ (.str v87) [.row g1000 3 1 81 (fun _ => pQ.lit), .row 0 4 1 68 (fun _ => [.str [], .str [], .own 2 0 0 l10.length, .own 3 0 0 ks.length]), .row 0 8 l10.length 99 f11, .row 0 5 ks.length 106 (row aj.cells ks), .row 0 4 1 68 (fun _ => [.str v1, .str v4, .own 5 0 0 jK.length, .own 6 0 0 BE.length]), .row 0 8 jK.length 99 f15, .row 0 5 BE.length 106 (row aj.cells BE)] ⟨rfl, _, fun _ => [.str v87, .str [], .str [], .bool false, .bool false], rfl, ar rfl, (.d ?_)⟩
 obtain ⟨⟨Lp, v91⟩, Vx, h⟩ := bd h
 refine ko (bC (g1000 := g1000) Vx) [0] ⟨rfl, ⟨⟩⟩ (.str Lp) [.row g1000 3 1 81 (fun _ => v91.lit), .row 0 4 1 68 (fun _ => [.str [], .str [], .own 2 0 0 l10.length, .own 3 0 0 ks.length]), .row 0 8 l10.length 99 f11, .row 0 5 ks.length 106 (row aj.cells ks), .row 0 4 1 68 (fun _ => [.str v1, .str v4, .own 5 0 0 jK.length, .own 6 0 0 BE.length]), .row 0 8 jK.length 99 f15, .row 0 5 BE.length 106 (row aj.cells BE), .row 0 5 1 106 (fun _ => [.str v87, .str [], .str [], .bool false, .bool false])] ⟨rfl, ⟨rfl, _, fun _ => [.str v87, .str Lp, .str [], .bool false, .bool false], rfl, ar rfl, (.d ?_)⟩⟩
 obtain ⟨⟨v93, W9⟩, Um, h⟩ := bd h
 refine ko (bC (g1000 := g1000) Um) [0] ⟨rfl, ⟨⟩⟩ (.str v93) [.row g1000 3 1 81 (fun _ => W9.lit), .row 0 4 1 68 (fun _ => [.str [], .str [], .own 2 0 0 l10.length, .own 3 0 0 ks.length]), .row 0 8 l10.length 99 f11, .row 0 5 ks.length 106 (row aj.cells ks), .row 0 4 1 68 (fun _ => [.str v1, .str v4, .own 5 0 0 jK.length, .own 6 0 0 BE.length]), .row 0 8 jK.length 99 f15, .row 0 5 BE.length 106 (row aj.cells BE), .row 0 5 1 106 (fun _ => [.str v87, .str Lp, .str [], .bool false, .bool false])] ⟨rfl, ⟨rfl, _, fun _ => [.str v87, .str Lp, .str v93, .bool false, .bool false], rfl, ar rfl, (.d ?_)⟩⟩
 obtain ⟨⟨QT, v97⟩, acz, h⟩ := bd h
 refine ko (fY (g1000 := g1000) acz) [0] ⟨rfl, ⟨⟩⟩ (.bool QT) [.row g1000 3 1 81 (fun _ => v97.lit), .row 0 4 1 68 (fun _ => [.str [], .str [], .own 2 0 0 l10.length, .own 3 0 0 ks.length]), .row 0 8 l10.length 99 f11, .row 0 5 ks.length 106 (row aj.cells ks), .row 0 4 1 68 (fun _ => [.str v1, .str v4, .own 5 0 0 jK.length, .own 6 0 0 BE.length]), .row 0 8 jK.length 99 f15, .row 0 5 BE.length 106 (row aj.cells BE), .row 0 5 1 106 (fun _ => [.str v87, .str Lp, .str v93, .bool false, .bool false])] ⟨rfl, ⟨rfl, _, fun _ => [.str v87, .str Lp, .str v93, .bool QT, .bool false], rfl, ar rfl, (.d ?_)⟩⟩
 obtain ⟨⟨Vw, IH⟩, Zb, h⟩ := bd h
 exact ko (fY (g1000 := g1000) Zb) [0] ⟨rfl, ⟨⟩⟩ (.bool Vw) [.row g1000 3 1 81 (fun _ => IH.lit), .row 0 4 1 68 (fun _ => [.str [], .str [], .own 2 0 0 l10.length, .own 3 0 0 ks.length]), .row 0 8 l10.length 99 f11, .row 0 5 ks.length 106 (row aj.cells ks), .row 0 4 1 68 (fun _ => [.str v1, .str v4, .own 5 0 0 jK.length, .own 6 0 0 BE.length]), .row 0 8 jK.length 99 f15, .row 0 5 BE.length 106 (row aj.cells BE), .row 0 5 1 106 (fun _ => [.str v87, .str Lp, .str v93, .bool QT, .bool false])] ⟨rfl, ⟨rfl, _, fun _ => [.str v87, .str Lp, .str v93, .bool QT, .bool Vw], rfl, ar rfl, ⟨rfl, ⟨rfl, _, rfl, ⟨rfl, _, rfl, ⟨row aj.cells ([(aj.mk v87 Lp v93 QT Vw)] : List aj), de aj.cells ([(aj.mk v87 Lp v93 QT Vw)] : List aj) rfl (cD rfl), (bk h fun N8 Ob h => ⟨rfl, rfl, lI (l := ([(aj.mk v87 Lp v93 QT Vw)] : List aj)) aS, eL Ob, N8.length, row aj.cells N8, dq Ob, dB Ob aS (jr aS), ⟨rfl, ⟨rfl, _, fun _ => [.str v1, .str v4, .own 5 0 0 jK.length, .own 6 (0 + 1) 0 N8.length], rfl, ar rfl, (lg (acx _ _ _ _ _ _ h rfl) (tk [0, 1, 2, 3, 4, 5, 6] ⟨.p, .p, .p, .i, ⟨⟩⟩ ⟨(nA rfl), (nb rfl ⟨.s, .s, (.od ahE), .o, ⟨⟩⟩), (lv d12), nw, (nb rfl ⟨.s, .s, (.od ahN), .o, ⟨⟩⟩), (lv d16), nw, ⟨⟩⟩))⟩⟩⟩)⟩⟩⟩⟩⟩⟩
 exact ct ⟨_, _, _, _, si h, rfl, rfl⟩ (tk [0, 1, 2, 3, 4, 5, 6] ⟨.p, .p, ⟨⟩⟩ ⟨(nA rfl), (nb rfl ⟨.s, .s, (.od ahE), .o, ⟨⟩⟩), (lv d12), nw, (nb rfl ⟨.s, .s, (.od ahN), .o, ⟨⟩⟩), (lv d16), nw, ⟨⟩⟩)
 exact .f (.f (.f (.f (.f (.f (ct ⟨_, _, _, _, si h, rfl, rfl⟩ (tk [0, 1, 2, 3, 4, 5, 6] ⟨.p, .p, ⟨⟩⟩ ⟨(nA rfl), (nb rfl ⟨.s, .s, (.od ahE), .o, ⟨⟩⟩), (lv d12), nw, (nb rfl ⟨.s, .s, (.od ahN), .o, ⟨⟩⟩), (lv d16), nw, ⟨⟩⟩)))))))
 rintro _ _ ⟨IA, Y5, Nk, SA, rfl, rfl, rfl⟩
 replace h := Ui
 refine .d ⟨rfl, _, rfl, ⟨rfl, _, fun _ => [.str v1, .str v4, .own 5 0 0 jK.length, .own 6 0 0 SA.length], rfl, ar rfl, ?_⟩⟩
 obtain rfl := si h
 exact ⟨rfl, _, rfl, (en [0, 5, 6] ⟨f15, d16.self, rfl, rfl⟩ (.bD ⟨.s, .s, (.od ahN), .o, ⟨⟩⟩) ⟨(ob rfl ⟨.l, .i, .b, ⟨⟩⟩), (lv d16 d16.len d16.len), nw, ⟨⟩⟩)⟩
def dH (Nl : List aC) (IW : List aw) (wT : List UInt8) (Xo : Int) (K4 : Bool) (mi : List aC) (wU : List aw) (NV : Int) : Option ((List aC) × (List aw) × (List UInt8) × Int × Bool × (List aC) × (List aw)) :=
 (if NV > 0 then
 (if K4 = true then
 some (Nl, IW, wT, Xo, K4, mi, wU)
 else
 eK (aI.mk wT Xo K4) >>= fun (bE, mT) =>
 im 120 mi [bE] >>= fun vy =>
 dH Nl IW mT.fB mT.dy mT.db vy wU (ai (NV - 1)))
 else
 some (Nl, IW, wT, Xo, K4, mi, wU))
partial_fixpoint
def dI (H5 : List UInt8) (Xp : Int) (Vy : Bool) (zI : List aw) (Zc : Int) : Option ((List UInt8) × Int × Bool × (List aw)) :=
 (if Zc > 0 then
 (if Vy = true then
 some (H5, Xp, Vy, zI)
 else
 fZ (aI.mk H5 Xp Vy) >>= fun (ig, Gz) =>
 im 80 zI [ig] >>= fun Qd =>
 dI Gz.fB Gz.dy Gz.db Qd (ai (Zc - 1)))
 else
 some (H5, Xp, Vy, zI))
partial_fixpoint
def gy (a0 : List UInt8) : Option (aN × Bool) :=
 (
 bA (aI.mk a0 0 false) >>= fun (zt, v20) =>
 dH ([] : List aC) ([] : List aw) v20.fB v20.dy v20.db ([] : List aC) ([] : List aw) zt
 : Option ((List aC) × (List aw) × (List UInt8) × Int × Bool × (List aC) × (List aw))) >>= fun (l1, l4, l7, y8, b9, l10, ks) =>
 (
 bA (aI.mk l7 y8 b9) >>= fun (mF, vI) =>
 dI vI.fB vI.dy vI.db ks mF
 : Option ((List UInt8) × Int × Bool × (List aw))) >>= fun (l54, Qe, Qf, uZ) =>
 (if Qf = true then
 some ((aN.mk [] []), false)
 else
 (if Qe = (a0.length : Int) then
 lU (aN.mk l10 uZ) >>= fun v91 =>
 (if v91 = true then
 some ((aN.mk l10 uZ), true)
 else
 some ((aN.mk [] []), false))
 else
 some ((aN.mk [] []), false)))
theorem pR {a0 : List UInt8} {r : aN × Bool} (h : gy a0 = some r) : ACall Tryz.prog 16 [sl 1 cB a0] [] (fun res h => ∃ F0 : Nat → List PV, ∃ F1 : Nat → List PV, DR aC.D r.1.a6.length F0 r.1.a6 ∧ DR aw.D r.1.aJ.length F1 r.1.aJ ∧ res = .fu [.agg [.own 0 0 0 r.1.a6.length, .own 1 0 0 r.1.aJ.length], .bool r.2] ∧ h = [.row 0 6 r.1.a6.length 57 F0, .row 0 4 r.1.aJ.length 68 F1]) := by
 refine dx Tryz.func16 ?_
 unfold gy at h
 refine .d (.d ⟨rfl, _, fun _ => [sl 1 cB a0, .int .i64 0, .bool false], rfl, ar rfl, (.d ⟨rfl, _, fun _ => [.aq, .aq], rfl, ar rfl, ?_⟩)⟩)
 obtain ⟨sd, UE, QB⟩ := bd h
 replace h := UE
 refine .cut (fun σ η => ∃ l1, ∃ l4, ∃ l7, ∃ y8, ∃ b9, ∃ l10, ∃ ks, ∃ f2 : Nat → List PV, ∃ f5 : Nat → List PV, ∃ f11 : Nat → List PV, ∃ f14 : Nat → List PV, DR aC.D l1.length f2 l1 ∧ DR aw.D l4.length f5 l4 ∧ DR aC.D l10.length f11 l10 ∧ DR aw.D ks.length f14 ks ∧ (l1, l4, l7, y8, b9, l10, ks) = sd ∧ σ = [(0, sl 1 cB a0), (2, .aG 0 0 0 0), (4, .aG 3 0 0 0), (5, .aG 4 0 0 0)] ∧ η = [.row 0 2 1 33 (fun _ => [.own 1 0 0 l1.length, .own 2 0 0 l4.length]), .row 0 6 l1.length 57 f2, .row 0 4 l4.length 68 f5, .row 0 3 1 81 (fun _ => [sl 1 cB l7, .int .i64 y8, .bool b9]), .row 0 2 1 33 (fun _ => [.own 5 0 0 l10.length, .own 6 0 0 ks.length]), .row 0 6 l10.length 57 f11, .row 0 4 ks.length 68 f14]) ?_ ?_
 refine .d ?_
 obtain ⟨⟨zt, v20⟩, Ez, h⟩ := bd h
 refine ko (bW (g1000 := 0) Ez) [1] ⟨rfl, ⟨⟩⟩ (.int .i64 zt) [.row 0 2 1 33 (fun _ => [.aq, .aq]), .row 0 3 1 81 (fun _ => v20.lit), .row 0 2 1 33 (fun _ => [.aq, .aq])] ?_
 refine le (dH.partial_correctness ([] : List aC) ([] : List aw) ([] : List aw) (motive := fun wT Xo K4 mi NV o52 => ∀ f23 : Nat → List PV, ∀ f26 : Nat → List PV, ∀ f32 : Nat → List PV, ∀ f35 : Nat → List PV, DR aC.D ([] : List aC).length f23 ([] : List aC) → DR aw.D ([] : List aw).length f26 ([] : List aw) → DR aC.D mi.length f32 mi → DR aw.D ([] : List aw).length f35 ([] : List aw) → sd = o52 → aB _ _ [(0, sl 1 cB a0), (2, .aG 0 0 0 0), (4, .aG 3 0 0 0), (5, .aG 4 0 0 0), (6, .int .i64 NV)] [.row 0 2 1 33 (fun _ => [.own 1 0 0 ([] : List aC).length, .own 2 0 0 ([] : List aw).length]), .row 0 6 ([] : List aC).length 57 f23, .row 0 4 ([] : List aw).length 68 f26, .row 0 3 1 81 (fun _ => [sl 1 cB wT, .int .i64 Xo, .bool K4]), .row 0 2 1 33 (fun _ => [.own 5 0 0 mi.length, .own 6 0 0 ([] : List aw).length]), .row 0 6 mi.length 57 f32, .row 0 4 ([] : List aw).length 68 f35]) ?_ v20.fB v20.dy v20.db ([] : List aC) zt sd h (fun _ => []) (fun _ => []) (fun _ => []) (fun _ => []) (DR.nil (D := aC.D)) (DR.nil (D := aw.D)) (DR.nil (D := aC.D)) (DR.nil (D := aw.D)) rfl) (tk [0, 4, 5, 1, 2, 8, 9] ⟨.l, .p, .p, .p, .i, ⟨⟩⟩ ⟨(nb rfl ⟨.g, .g, ⟨⟩⟩), gh, gh, (bn rfl), (nb rfl ⟨.g, .g, ⟨⟩⟩), gh, gh, ⟨⟩⟩)
 intro F39 Vc wT Xo K4 mi NV o52 h f23 f26 f32 f35 d24 d27 d33 d36 acA
 subst acA
 refine aB.round (.d (.d (sD h (fun sr h => ?_) (fun sr h => ?_))))
 refine ⟨rfl, (.t ⟨rfl, _, rfl, (.t (.t (hB h (fun yx h => ?_) (fun yx h => ?_))))⟩)⟩
 refine .d (.float [(0, true), (1, true), (2, false), (3, false), (4, false), (5, true), (6, false)] ahA ?_)
 refine ⟨rfl, ⟨rfl, _, rfl, ?_⟩⟩
 obtain ⟨⟨bE, mT⟩, M8, h⟩ := bd h
 refine ko (rf (g1000 := 0) M8) [3] ⟨rfl, ⟨⟩⟩ (.agg [.str bE.az, .own 7 0 0 bE.av.length, .own 8 0 0 bE.aM.length, .own 9 0 0 bE.ay.length, .bool bE.eN, .own 10 0 0 bE.ax.length]) [.row 0 2 1 33 (fun _ => [.own 1 0 0 ([] : List aC).length, .own 2 0 0 ([] : List aw).length]), .row 0 6 ([] : List aC).length 57 f23, .row 0 4 ([] : List aw).length 68 f26, .row 0 3 1 81 (fun _ => mT.lit), .row 0 2 1 33 (fun _ => [.own 5 0 0 mi.length, .own 6 0 0 ([] : List aw).length]), .row 0 6 mi.length 57 f32, .row 0 4 ([] : List aw).length 68 f35, .row 0 2 bE.av.length 61 (row TParam.cells bE.av), .row 0 2 bE.aM.length 61 (row TParam.cells bE.aM), .row 0 1 bE.ay.length 9 (row cS bE.ay), .row 0 5 bE.ax.length 64 (row aL.cells bE.ax)] ⟨rfl, ⟨rfl, ⟨fun _ => [.str bE.az, .own 7 0 0 bE.av.length, .own 8 0 0 bE.aM.length, .own 9 0 0 bE.ay.length, .bool bE.eN, .own 10 0 0 bE.ax.length], xn, ⟨rfl, ⟨rfl, (bk h fun vy tC h => ⟨rfl, rfl, (fun _ _ => rfl), DR.YX d33 tC, vy.length, bx f32 mi.length [.str bE.az, .own 7 0 0 bE.av.length, .own 8 0 0 bE.aM.length, .own 9 0 0 bE.ay.length, .bool bE.eN, .own 10 0 0 bE.ax.length], DR.ln d33 tC, xo (DR.ln d33 tC) ⟨.same _, .same _, .same _, .same _, .same _, .same _, trivial⟩, ⟨rfl, ⟨rfl, _, fun _ => [.own 5 (0 + 1) 0 vy.length, .own 6 0 0 ([] : List aw).length], rfl, ar rfl, (.ab 5 mi.length 1 7 (fun uQ => [.row 0 2 1 33 (fun _ => [.own 1 0 0 ([] : List aC).length, .own 2 0 0 ([] : List aw).length]), .row 0 6 ([] : List aC).length 57 f23, .row 0 4 ([] : List aw).length 68 f26, .row 0 3 1 81 (fun _ => mT.lit), .row 0 2 1 33 (fun _ => [.own 5 (0 + 1) 0 vy.length, .own 6 0 0 ([] : List aw).length]), .row (0 + 1) 6 vy.length 57 (bx f32 mi.length [.str bE.az, .bf 2 bE.av.length 61 (row TParam.cells bE.av) uQ, .own 8 0 0 bE.aM.length, .own 9 0 0 bE.ay.length, .bool bE.eN, .own 10 0 0 bE.ax.length]), .row 0 4 ([] : List aw).length 68 f35, .dead, .row 0 2 bE.aM.length 61 (row TParam.cells bE.aM), .row 0 1 bE.ay.length 9 (row cS bE.ay), .row 0 5 bE.ax.length 64 (row aL.cells bE.ax), .row 0 6 1 57 (fun _ => [.str bE.az, .own 7 0 0 bE.av.length, .own 8 0 0 bE.aM.length, .own 9 0 0 bE.ay.length, .bool bE.eN, .own 10 0 0 bE.ax.length])]) (fun uQ => tS [.str bE.az, .own 7 0 0 bE.av.length, .own 8 0 0 bE.aM.length, .own 9 0 0 bE.ay.length, .bool bE.eN, .own 10 0 0 bE.ax.length] [.str bE.az, .bf 2 bE.av.length 61 (row TParam.cells bE.av) uQ, .own 8 0 0 bE.aM.length, .own 9 0 0 bE.ay.length, .bool bE.eN, .own 10 0 0 bE.ax.length] (bx f32 mi.length [.str bE.az, .bf 2 bE.av.length 61 (row TParam.cells bE.av) uQ, .own 8 0 0 bE.aM.length, .own 9 0 0 bE.ay.length, .bool bE.eN, .own 10 0 0 bE.ax.length]) (DR.lq d33 tC) aT aT eo BF rfl rfl rfl rfl ahx rfl) fun uQ => (.ab 5 mi.length 2 8 (fun zq => [.row 0 2 1 33 (fun _ => [.own 1 0 0 ([] : List aC).length, .own 2 0 0 ([] : List aw).length]), .row 0 6 ([] : List aC).length 57 f23, .row 0 4 ([] : List aw).length 68 f26, .row 0 3 1 81 (fun _ => mT.lit), .row 0 2 1 33 (fun _ => [.own 5 (0 + 1) 0 vy.length, .own 6 0 0 ([] : List aw).length]), .row (0 + 1) 6 vy.length 57 (bx f32 mi.length [.str bE.az, .bf 2 bE.av.length 61 (row TParam.cells bE.av) uQ, .bf 2 bE.aM.length 61 (row TParam.cells bE.aM) zq, .own 9 0 0 bE.ay.length, .bool bE.eN, .own 10 0 0 bE.ax.length]), .row 0 4 ([] : List aw).length 68 f35, .dead, .dead, .row 0 1 bE.ay.length 9 (row cS bE.ay), .row 0 5 bE.ax.length 64 (row aL.cells bE.ax), .row 0 6 1 57 (fun _ => [.str bE.az, .own 7 0 0 bE.av.length, .own 8 0 0 bE.aM.length, .own 9 0 0 bE.ay.length, .bool bE.eN, .own 10 0 0 bE.ax.length])]) (fun zq => tS [.str bE.az, .bf 2 bE.av.length 61 (row TParam.cells bE.av) uQ, .own 8 0 0 bE.aM.length, .own 9 0 0 bE.ay.length, .bool bE.eN, .own 10 0 0 bE.ax.length] [.str bE.az, .bf 2 bE.av.length 61 (row TParam.cells bE.av) uQ, .bf 2 bE.aM.length 61 (row TParam.cells bE.aM) zq, .own 9 0 0 bE.ay.length, .bool bE.eN, .own 10 0 0 bE.ax.length] (bx f32 mi.length [.str bE.az, .bf 2 bE.av.length 61 (row TParam.cells bE.av) uQ, .bf 2 bE.aM.length 61 (row TParam.cells bE.aM) zq, .own 9 0 0 bE.ay.length, .bool bE.eN, .own 10 0 0 bE.ax.length]) (DR.lq d33 tC) aT aT eo BF rfl rfl rfl rfl ahx rfl) fun zq => (.ab 5 mi.length 3 9 (fun Mo => [.row 0 2 1 33 (fun _ => [.own 1 0 0 ([] : List aC).length, .own 2 0 0 ([] : List aw).length]), .row 0 6 ([] : List aC).length 57 f23, .row 0 4 ([] : List aw).length 68 f26, .row 0 3 1 81 (fun _ => mT.lit), .row 0 2 1 33 (fun _ => [.own 5 (0 + 1) 0 vy.length, .own 6 0 0 ([] : List aw).length]), .row (0 + 1) 6 vy.length 57 (bx f32 mi.length [.str bE.az, .bf 2 bE.av.length 61 (row TParam.cells bE.av) uQ, .bf 2 bE.aM.length 61 (row TParam.cells bE.aM) zq, .bf 1 bE.ay.length 9 (row cS bE.ay) Mo, .bool bE.eN, .own 10 0 0 bE.ax.length]), .row 0 4 ([] : List aw).length 68 f35, .dead, .dead, .dead, .row 0 5 bE.ax.length 64 (row aL.cells bE.ax), .row 0 6 1 57 (fun _ => [.str bE.az, .own 7 0 0 bE.av.length, .own 8 0 0 bE.aM.length, .own 9 0 0 bE.ay.length, .bool bE.eN, .own 10 0 0 bE.ax.length])]) (fun Mo => tS [.str bE.az, .bf 2 bE.av.length 61 (row TParam.cells bE.av) uQ, .bf 2 bE.aM.length 61 (row TParam.cells bE.aM) zq, .own 9 0 0 bE.ay.length, .bool bE.eN, .own 10 0 0 bE.ax.length] [.str bE.az, .bf 2 bE.av.length 61 (row TParam.cells bE.av) uQ, .bf 2 bE.aM.length 61 (row TParam.cells bE.aM) zq, .bf 1 bE.ay.length 9 (row cS bE.ay) Mo, .bool bE.eN, .own 10 0 0 bE.ax.length] (bx f32 mi.length [.str bE.az, .bf 2 bE.av.length 61 (row TParam.cells bE.av) uQ, .bf 2 bE.aM.length 61 (row TParam.cells bE.aM) zq, .bf 1 bE.ay.length 9 (row cS bE.ay) Mo, .bool bE.eN, .own 10 0 0 bE.ax.length]) (DR.lq d33 tC) aT aT eo BF rfl rfl rfl rfl ahx rfl) fun Mo => (.ab 5 mi.length 5 10 (fun SC => [.row 0 2 1 33 (fun _ => [.own 1 0 0 ([] : List aC).length, .own 2 0 0 ([] : List aw).length]), .row 0 6 ([] : List aC).length 57 f23, .row 0 4 ([] : List aw).length 68 f26, .row 0 3 1 81 (fun _ => mT.lit), .row 0 2 1 33 (fun _ => [.own 5 (0 + 1) 0 vy.length, .own 6 0 0 ([] : List aw).length]), .row (0 + 1) 6 vy.length 57 (bx f32 mi.length [.str bE.az, .bf 2 bE.av.length 61 (row TParam.cells bE.av) uQ, .bf 2 bE.aM.length 61 (row TParam.cells bE.aM) zq, .bf 1 bE.ay.length 9 (row cS bE.ay) Mo, .bool bE.eN, .bf 5 bE.ax.length 64 (row aL.cells bE.ax) SC]), .row 0 4 ([] : List aw).length 68 f35, .dead, .dead, .dead, .dead, .row 0 6 1 57 (fun _ => [.str bE.az, .own 7 0 0 bE.av.length, .own 8 0 0 bE.aM.length, .own 9 0 0 bE.ay.length, .bool bE.eN, .own 10 0 0 bE.ax.length])]) (fun SC => tS [.str bE.az, .bf 2 bE.av.length 61 (row TParam.cells bE.av) uQ, .bf 2 bE.aM.length 61 (row TParam.cells bE.aM) zq, .bf 1 bE.ay.length 9 (row cS bE.ay) Mo, .bool bE.eN, .own 10 0 0 bE.ax.length] [.str bE.az, .bf 2 bE.av.length 61 (row TParam.cells bE.av) uQ, .bf 2 bE.aM.length 61 (row TParam.cells bE.aM) zq, .bf 1 bE.ay.length 9 (row cS bE.ay) Mo, .bool bE.eN, .bf 5 bE.ax.length 64 (row aL.cells bE.ax) SC] (bx f32 mi.length [.str bE.az, .bf 2 bE.av.length 61 (row TParam.cells bE.av) uQ, .bf 2 bE.aM.length 61 (row TParam.cells bE.aM) zq, .bf 1 bE.ay.length 9 (row cS bE.ay) Mo, .bool bE.eN, .bf 5 bE.ax.length 64 (row aL.cells bE.ax) SC]) (DR.lq d33 tC) aT aT eo BF rfl rfl rfl rfl ahx rfl) fun SC => ?_))))⟩⟩⟩)⟩⟩⟩⟩⟩
 have d51 : DR aC.D vy.length (bx f32 mi.length [.str bE.az, .bf 2 bE.av.length 61 (row TParam.cells bE.av) uQ, .bf 2 bE.aM.length 61 (row TParam.cells bE.aM) zq, .bf 1 bE.ay.length 9 (row cS bE.ay) Mo, .bool bE.eN, .bf 5 bE.ax.length 64 (row aL.cells bE.ax) SC]) vy := DR.N2 d33 tC (aC.Ad (x := bE) rfl rfl rfl rfl : aC.D [.str bE.az, .bf 2 bE.av.length 61 (row TParam.cells bE.av) uQ, .bf 2 bE.aM.length 61 (row TParam.cells bE.aM) zq, .bf 1 bE.ay.length 9 (row cS bE.ay) Mo, .bool bE.eN, .bf 5 bE.ax.length 64 (row aL.cells bE.ax) SC] bE)
 exact lg (Vc _ _ _ _ _ _ h f23 f26 (bx f32 mi.length [.str bE.az, .bf 2 bE.av.length 61 (row TParam.cells bE.av) uQ, .bf 2 bE.aM.length 61 (row TParam.cells bE.aM) zq, .bf 1 bE.ay.length 9 (row cS bE.ay) Mo, .bool bE.eN, .bf 5 bE.ax.length 64 (row aL.cells bE.ax) SC]) f35 d24 d27 d51 d36 rfl) (tk [0, 1, 2, 3, 4, 5, 6] ⟨.l, .p, .p, .p, .i, ⟨⟩⟩ ⟨(nb rfl ⟨(.od ahQ), (.od aia), ⟨⟩⟩), (lv d24), (lv d27), (bn rfl), (nb rfl ⟨(.od ahK), (.od ahZ), ⟨⟩⟩), (lv d51), (lv d36), ⟨⟩⟩)
 exact ct ⟨_, _, _, _, _, _, _, f23, f26, f32, f35, d24, d27, d33, d36, si h, rfl, rfl⟩ (tk [0, 1, 2, 3, 4, 5, 6] ⟨.l, .p, .p, .p, ⟨⟩⟩ ⟨(nb rfl ⟨(.od ahQ), (.od aia), ⟨⟩⟩), (lv d24), (lv d27), (bn rfl), (nb rfl ⟨(.od ahM), (.od ahZ), ⟨⟩⟩), (lv d33), (lv d36), ⟨⟩⟩)
 exact .f (.f (.f (.f (ct ⟨_, _, _, _, _, _, _, f23, f26, f32, f35, d24, d27, d33, d36, si h, rfl, rfl⟩ (tk [0, 1, 2, 3, 4, 5, 6] ⟨.l, .p, .p, .p, ⟨⟩⟩ ⟨(nb rfl ⟨(.od ahQ), (.od aia), ⟨⟩⟩), (lv d24), (lv d27), (bn rfl), (nb rfl ⟨(.od ahM), (.od ahZ), ⟨⟩⟩), (lv d33), (lv d36), ⟨⟩⟩)))))
 rintro _ _ ⟨l1, l4, l7, y8, b9, l10, ks, f2, f5, f11, f14, d3, d6, d12, d15, rfl, rfl, rfl⟩
 replace h := QB
 obtain ⟨Mp, Vz, I2⟩ := bd h
 replace h := Vz
 refine .cut (fun σ η => ∃ l54, ∃ Qe, ∃ Qf, ∃ uZ, ∃ f58 : Nat → List PV, DR aw.D uZ.length f58 uZ ∧ (l54, Qe, Qf, uZ) = Mp ∧ σ = [(0, sl 1 cB a0), (2, .aG 0 0 0 0), (4, .aG 3 0 0 0), (5, .aG 4 0 0 0)] ∧ η = [.row 0 2 1 33 (fun _ => [.own 1 0 0 l1.length, .own 2 0 0 l4.length]), .row 0 6 l1.length 57 f2, .row 0 4 l4.length 68 f5, .row 0 3 1 81 (fun _ => [sl 1 cB l54, .int .i64 Qe, .bool Qf]), .row 0 2 1 33 (fun _ => [.own 5 0 0 l10.length, .own 6 0 0 uZ.length]), .row 0 6 l10.length 57 f11, .row 0 4 uZ.length 68 f58]) ?_ ?_
 refine .d ?_
 obtain ⟨⟨mF, vI⟩, E4, h⟩ := bd h
 refine ko (bW (g1000 := 0) E4) [3] ⟨rfl, ⟨⟩⟩ (.int .i64 mF) [.row 0 2 1 33 (fun _ => [.own 1 0 0 l1.length, .own 2 0 0 l4.length]), .row 0 6 l1.length 57 f2, .row 0 4 l4.length 68 f5, .row 0 3 1 81 (fun _ => vI.lit), .row 0 2 1 33 (fun _ => [.own 5 0 0 l10.length, .own 6 0 0 ks.length]), .row 0 6 l10.length 57 f11, .row 0 4 ks.length 68 f14] ?_
 refine le (dI.partial_correctness  (motive := fun H5 Xp Vy zI Zc Zd => ∀ f70 : Nat → List PV, DR aw.D zI.length f70 zI → Mp = Zd → aB _ _ [(0, sl 1 cB a0), (2, .aG 0 0 0 0), (4, .aG 3 0 0 0), (5, .aG 4 0 0 0), (7, .int .i64 Zc)] [.row 0 2 1 33 (fun _ => [.own 1 0 0 l1.length, .own 2 0 0 l4.length]), .row 0 6 l1.length 57 f2, .row 0 4 l4.length 68 f5, .row 0 3 1 81 (fun _ => [sl 1 cB H5, .int .i64 Xp, .bool Vy]), .row 0 2 1 33 (fun _ => [.own 5 0 0 l10.length, .own 6 0 0 zI.length]), .row 0 6 l10.length 57 f11, .row 0 4 zI.length 68 f70]) ?_ vI.fB vI.dy vI.db ks mF Mp h f14 d15 rfl) (tk [0, 1, 2, 3, 4, 5, 6] ⟨.l, .p, .p, .p, .i, ⟨⟩⟩ ⟨(nb rfl ⟨(.od ahS), (.od ahR), ⟨⟩⟩), (lv d3), (lv d6), (bn rfl), (nb rfl ⟨(.od ahE), (.od (by first | rfl | exact d15.len | exact d15.len.symm)), ⟨⟩⟩), (lv d12), (lv d15), ⟨⟩⟩)
 intro F74 acB H5 Xp Vy zI Zc Zd h f70 d71 VA
 subst VA
 refine aB.round (.d (.d (sD h (fun VB h => ?_) (fun VB h => ?_))))
 refine ⟨rfl, (.t ⟨rfl, _, rfl, (.t (.t (hB h (fun Nn h => ?_) (fun Nn h => ?_))))⟩)⟩
 refine .d (.float [(0, true), (1, true), (2, false), (3, false), (4, false), (5, true), (6, false)] ahA ?_)
 refine ⟨rfl, ⟨rfl, _, rfl, ?_⟩⟩
 obtain ⟨⟨ig, Gz⟩, Vs, h⟩ := bd h
 refine tR (tF (g1000 := 0) Vs) [3] ⟨rfl, ⟨⟩⟩ ?_
 rintro _ _ ⟨f80, d81, rfl, rfl⟩
 refine ⟨.agg [.str ig.az, .str ig.dp, .own 7 0 0 ig.aH.length, .own 8 0 0 ig.aE.length], [.row 0 2 1 33 (fun _ => [.own 1 0 0 l1.length, .own 2 0 0 l4.length]), .row 0 6 l1.length 57 f2, .row 0 4 l4.length 68 f5, .row 0 3 1 81 (fun _ => Gz.lit), .row 0 2 1 33 (fun _ => [.own 5 0 0 l10.length, .own 6 0 0 zI.length]), .row 0 6 l10.length 57 f11, .row 0 4 zI.length 68 f70, .row 0 8 ig.aH.length 99 f80, .row 0 5 ig.aE.length 106 (row aj.cells ig.aE)], rfl, (by simp only [lN, eM, aec, aep, List.drop, As, adU, EB, red d81]; rfl), ⟨rfl, ⟨rfl, ⟨fun _ => [.str ig.az, .str ig.dp, .own 7 0 0 ig.aH.length, .own 8 0 0 ig.aE.length], xn, ⟨rfl, ⟨rfl, (bk h fun Qd Fl h => ⟨rfl, rfl, (fun _ _ => rfl), DR.YX d71 Fl, Qd.length, bx f70 zI.length [.str ig.az, .str ig.dp, .own 7 0 0 ig.aH.length, .own 8 0 0 ig.aE.length], DR.ln d71 Fl, xo (DR.ln d71 Fl) ⟨.same _, .same _, .same _, .same _, trivial⟩, ⟨rfl, ⟨rfl, _, fun _ => [.own 5 0 0 l10.length, .own 6 (0 + 1) 0 Qd.length], rfl, ar rfl, (.ab 6 zI.length 2 7 (fun Lq => [.row 0 2 1 33 (fun _ => [.own 1 0 0 l1.length, .own 2 0 0 l4.length]), .row 0 6 l1.length 57 f2, .row 0 4 l4.length 68 f5, .row 0 3 1 81 (fun _ => Gz.lit), .row 0 2 1 33 (fun _ => [.own 5 0 0 l10.length, .own 6 (0 + 1) 0 Qd.length]), .row 0 6 l10.length 57 f11, .row (0 + 1) 4 Qd.length 68 (bx f70 zI.length [.str ig.az, .str ig.dp, .bf 8 ig.aH.length 99 f80 Lq, .own 8 0 0 ig.aE.length]), .dead, .row 0 5 ig.aE.length 106 (row aj.cells ig.aE), .row 0 4 1 68 (fun _ => [.str ig.az, .str ig.dp, .own 7 0 0 ig.aH.length, .own 8 0 0 ig.aE.length])]) (fun Lq => tS [.str ig.az, .str ig.dp, .own 7 0 0 ig.aH.length, .own 8 0 0 ig.aE.length] [.str ig.az, .str ig.dp, .bf 8 ig.aH.length 99 f80 Lq, .own 8 0 0 ig.aE.length] (bx f70 zI.length [.str ig.az, .str ig.dp, .bf 8 ig.aH.length 99 f80 Lq, .own 8 0 0 ig.aE.length]) (DR.lq d71 Fl) aT aT eo (d81).po rfl rfl rfl rfl ahx rfl) fun Lq => (.ab 6 zI.length 3 8 (fun SD => [.row 0 2 1 33 (fun _ => [.own 1 0 0 l1.length, .own 2 0 0 l4.length]), .row 0 6 l1.length 57 f2, .row 0 4 l4.length 68 f5, .row 0 3 1 81 (fun _ => Gz.lit), .row 0 2 1 33 (fun _ => [.own 5 0 0 l10.length, .own 6 (0 + 1) 0 Qd.length]), .row 0 6 l10.length 57 f11, .row (0 + 1) 4 Qd.length 68 (bx f70 zI.length [.str ig.az, .str ig.dp, .bf 8 ig.aH.length 99 f80 Lq, .bf 5 ig.aE.length 106 (row aj.cells ig.aE) SD]), .dead, .dead, .row 0 4 1 68 (fun _ => [.str ig.az, .str ig.dp, .own 7 0 0 ig.aH.length, .own 8 0 0 ig.aE.length])]) (fun SD => tS [.str ig.az, .str ig.dp, .bf 8 ig.aH.length 99 f80 Lq, .own 8 0 0 ig.aE.length] [.str ig.az, .str ig.dp, .bf 8 ig.aH.length 99 f80 Lq, .bf 5 ig.aE.length 106 (row aj.cells ig.aE) SD] (bx f70 zI.length [.str ig.az, .str ig.dp, .bf 8 ig.aH.length 99 f80 Lq, .bf 5 ig.aE.length 106 (row aj.cells ig.aE) SD]) (DR.lq d71 Fl) aT aT eo BF rfl rfl rfl rfl ahx rfl) fun SD => ?_))⟩⟩⟩)⟩⟩⟩⟩⟩⟩
 have d86 : DR aw.D Qd.length (bx f70 zI.length [.str ig.az, .str ig.dp, .bf 8 ig.aH.length 99 f80 Lq, .bf 5 ig.aE.length 106 (row aj.cells ig.aE) SD]) Qd := DR.N2 d71 Fl (aw.Ad (x := ig) d81 rfl : aw.D [.str ig.az, .str ig.dp, .bf 8 ig.aH.length 99 f80 Lq, .bf 5 ig.aE.length 106 (row aj.cells ig.aE) SD] ig)
 exact lg (acB _ _ _ _ _ _ h (bx f70 zI.length [.str ig.az, .str ig.dp, .bf 8 ig.aH.length 99 f80 Lq, .bf 5 ig.aE.length 106 (row aj.cells ig.aE) SD]) d86 rfl) (tk [0, 1, 2, 3, 4, 5, 6] ⟨.l, .p, .p, .p, .i, ⟨⟩⟩ ⟨(nb rfl ⟨(.od ahS), (.od ahR), ⟨⟩⟩), (lv d3), (lv d6), (bn rfl), (nb rfl ⟨(.od ahE), (.od (by first | rfl | exact d86.len | exact d86.len.symm)), ⟨⟩⟩), (lv d12), (lv d86), ⟨⟩⟩)
 exact ct ⟨_, _, _, _, f70, d71, si h, rfl, rfl⟩ (tk [0, 1, 2, 3, 4, 5, 6] ⟨.l, .p, .p, .p, ⟨⟩⟩ ⟨(nb rfl ⟨(.od ahS), (.od ahR), ⟨⟩⟩), (lv d3), (lv d6), (bn rfl), (nb rfl ⟨(.od ahE), (.od (by first | rfl | exact d71.len | exact d71.len.symm)), ⟨⟩⟩), (lv d12), (lv d71), ⟨⟩⟩)
 exact .f (.f (.f (.f (ct ⟨_, _, _, _, f70, d71, si h, rfl, rfl⟩ (tk [0, 1, 2, 3, 4, 5, 6] ⟨.l, .p, .p, .p, ⟨⟩⟩ ⟨(nb rfl ⟨(.od ahS), (.od ahR), ⟨⟩⟩), (lv d3), (lv d6), (bn rfl), (nb rfl ⟨(.od ahE), (.od (by first | rfl | exact d71.len | exact d71.len.symm)), ⟨⟩⟩), (lv d12), (lv d71), ⟨⟩⟩)))))
 rintro _ _ ⟨l54, Qe, Qf, uZ, f58, d59, rfl, rfl, rfl⟩
 replace h := I2
 refine .d (.d ⟨rfl, ⟨rfl, _, rfl, (sV h (fun UD h => ?_) (fun UD h => ?_))⟩⟩)
 refine .t (.t (.t (.t (.t (.t (.t (.t (.t (.t (.d ⟨rfl, _, fun _ => [.aq, .aq], rfl, ar rfl, ?_⟩))))))))))
 exact agx
 refine ⟨rfl, (.f ⟨rfl, _, rfl, (.f (.f (.f (.f (sN h (fun acC h => ?_) (fun acC h => ?_))))))⟩)⟩
 refine .t (.t (.t (.t (.d ⟨rfl, _, fun _ => [.aq, .aq], rfl, ar rfl, ?_⟩))))
 exact agx
 refine ⟨rfl, _, rfl, (.f (bk h fun v91 Vx h => (Qc (BG Vx) ⟨.bD ⟨(.rd d12), (.rd d59), ⟨⟩⟩, ⟨⟩⟩ (.f (.f (hB h (fun acD h => ?_) (fun acD h => ?_)))))))⟩
 refine .d ⟨rfl, _, fun _ => [.aq, .aq], rfl, ar rfl, ?_⟩
 exact agx
 refine .d ⟨rfl, _, rfl, ⟨rfl, _, fun _ => [.own 5 0 0 l10.length, .own 6 0 0 uZ.length], rfl, ar rfl, ?_⟩⟩
 obtain rfl := si h
 exact ⟨rfl, _, rfl, (en [5, 6] ⟨f11, f58, d12.self, d59.self, rfl, rfl⟩ (.bq ⟨.bD ⟨(.od ahE), (.od (by first | rfl | exact d59.len | exact d59.len.symm)), ⟨⟩⟩, .b, ⟨⟩⟩) ⟨(lv d12 d12.len d12.len), (lv d59 d59.len d59.len), ⟨⟩⟩)⟩
set_option maxRecDepth 100000
def fQ (a0 : List UInt8) : Option (Bool) :=
 (if (a0.length : Int) > 1048576 then
 some true
 else
 gX a0 >>= fun v2 =>
 iW v2 >>= fun (v4, v5) =>
 (
 gX a0 >>= fun v11 =>
 some v11
 : Option ((List UInt8))) >>= fun l7 =>
 gy l7 >>= fun (lZ, CO) =>
 ((
 je lZ v4 >>= fun kK =>
 (if kK = true then
 (if CO = v5 then
 some (.inl ())
 else
 some (.inr false))
 else
 some (.inr false))
 : Option ((Unit) ⊕ Bool)) >>= fun Ij => match Ij with
 | .inr r => some r
 | .inl _ =>
 gX a0 >>= fun lz =>
 nX l7 lz >>= fun P2 =>
 (if P2 = true then
 kl l7 1 >>= fun (Gl, Gn) =>
 ((
 (if Gl < 0 then
 some (.inr false)
 else
 je lZ v4 >>= fun pn =>
 (if pn = true then
 (if CO = v5 then
 some (.inl ())
 else
 some (.inr false))
 else
 some (.inr false)))
 : Option ((Unit) ⊕ Bool)) >>= fun QU => match QU with
 | .inr r => some r
 | .inl _ =>
 iI lZ 1 >>= fun (Mh, v46) =>
 gG v46 1 >>= fun bT =>
 ((
 (if bT < 0 then
 some (.inr false)
 else
 some (.inl ()))
 : Option ((Unit) ⊕ Bool)) >>= fun o54 => match o54 with
 | .inr r => some r
 | .inl _ =>
 (if bT = Mh then
 gX a0 >>= fun v59 =>
 gy v59 >>= fun (yg, Ze) =>
 ((
 je yg v4 >>= fun H4 =>
 (if H4 = true then
 (if Ze = v5 then
 some (.inl ())
 else
 some (.inr false))
 else
 some (.inr false))
 : Option ((Unit) ⊕ Bool)) >>= fun Xq => match Xq with
 | .inr r => some r
 | .inl _ =>
 gG v46 1 >>= fun v75 =>
 (if v75 < 0 then
 some false
 else
 (if v75 = Mh then
 some true
 else
 some false))
 )
 else
 some false)
 )
 )
 else
 some false)
 ))
theorem qi {a0 : List UInt8} {r : Bool} (h : fQ a0 = some r) : ACall Tryz.prog 4 [sl 1 cB a0] [] (fun res h => res = .bool r ∧ h = []) := by
 refine dx Tryz.func4 ?_
 unfold fQ at h
 refine .d (.d (.d (sD h (fun eD h => ?_) (fun eD h => ?_))))
 exact agP
 refine .d (bk h fun v2 qs h => (bJ (sJ qs) ?_))
 obtain ⟨⟨v4, v5⟩, Ac, h⟩ := bd h
 refine bJ (wo Ac) ⟨rfl, _, fun _ => [sl 6 aC.cells v4.a6, sl 4 aw.cells v4.aJ], rfl, ar rfl, ?_⟩
 obtain ⟨o8, ho9, Db⟩ := bd h
 replace h := ho9
 refine .cut (fun σ η => ∃ l7, l7 = o8 ∧ σ = [(0, sl 1 cB a0), (3, .aG 0 0 0 0), (4, .bool v5), (5, .own 1 0 0 l7.length)] ∧ η = [.row 0 2 1 33 (fun _ => v4.lit), .row 0 1 l7.length 5 (row cB l7)]) ?_ ?_
 exact bk h fun v11 Ii h => (pcF (Dc Ii) (.own 1 0 0 v11.length) [.row 0 2 1 33 (fun _ => v4.lit), .row 0 1 v11.length 5 (row cB v11)] (ct ⟨_, si h, rfl, rfl⟩ (tk [0, 1] ⟨.l, .p, .b, .o, ⟨⟩⟩ ⟨(bn rfl), nw, ⟨⟩⟩)))
 rintro _ _ ⟨l7, rfl, rfl, rfl⟩
 replace h := Db
 refine .d ?_
 obtain ⟨⟨lZ, CO⟩, IV, h⟩ := bd h
 refine Zf (pR IV) ⟨.r, ⟨⟩⟩ (by rintro _ _ ⟨f16, f18, d17, d19, rfl, rfl⟩; exact ⟨rfl, (Ko d17.flp (Ko d19.flp VC))⟩) ?_
 rintro _ _ ⟨f16, f18, d17, d19, rfl, rfl⟩
 refine ⟨.fu [.agg [.own 2 0 0 lZ.a6.length, .own 3 0 0 lZ.aJ.length], .bool CO], [.row 0 2 1 33 (fun _ => v4.lit), .row 0 1 l7.length 5 (row cB l7), .row 0 6 lZ.a6.length 57 f16, .row 0 4 lZ.aJ.length 68 f18], rfl, (by simp only [aec, aep, shr, Y8 d17, Y8 d19]; rfl), ⟨rfl, _, fun _ => [.own 2 0 0 lZ.a6.length, .own 3 0 0 lZ.aJ.length], rfl, ar rfl, ?_⟩⟩
 obtain ⟨Ij, acE, VD⟩ := bd h
 replace h := acE
 refine .cut (fun σ η => .inl () = Ij ∧ σ = [(0, sl 1 cB a0), (3, .aG 0 0 0 0), (4, .bool v5), (5, .own 1 0 0 l7.length), (6, .aG 2 0 0 0), (7, .bool CO)] ∧ η = [.row 0 2 1 33 (fun _ => v4.lit), .row 0 1 l7.length 5 (row cB l7), .row 0 2 1 33 (fun _ => [.own 3 0 0 lZ.a6.length, .own 4 0 0 lZ.aJ.length]), .row 0 6 lZ.a6.length 57 f16, .row 0 4 lZ.aJ.length 68 f18]) ?_ ?_
 refine .d ⟨rfl, _, rfl, ⟨rfl, _, rfl, (bk h fun kK tO h => (Qc (pC tO) ⟨.bD ⟨(.rd d17), (.rd d19), ⟨⟩⟩, .bD ⟨.l, .l, ⟨⟩⟩, ⟨⟩⟩ (hB h (fun ny h => ?_) (fun ny h => ?_))))⟩⟩
 refine .t (.t (.t (.t (.d ?_))))
 obtain rfl := si h
 replace h := VD
 exact eB h
 refine .f (.f (.f (nq h (fun qg h => ?_) (fun qg h => ?_))))
 refine .d ?_
 obtain rfl := si h
 replace h := VD
 exact eB h
 exact ct ⟨si h, rfl, rfl⟩ (tk [0, 1, 4, 2, 3] ⟨.l, .p, .b, .o, .p, .b, ⟨⟩⟩ ⟨(bn rfl), nw, (nb rfl ⟨(.od (by first | rfl | exact d17.len | exact d17.len.symm)), (.od (by first | rfl | exact d19.len | exact d19.len.symm)), ⟨⟩⟩), (lv d17), (lv d19), ⟨⟩⟩)
 rintro _ _ ⟨rfl, rfl, rfl⟩
 replace h := VD
 refine .d (.d (bk h fun lz Ih h => (bJ (sJ Ih) (bk h fun P2 TO h => (Qc (Ex TO) ⟨.r, .l, ⟨⟩⟩ (hB h (fun yA h => ?_) (fun yA h => ?_)))))))
 exact agP
 refine .d (.d ?_)
 obtain ⟨⟨Gl, Gn⟩, TQ, h⟩ := bd h
 refine tR (A7 (g1000 := 0) TQ DR.sq) [1] ⟨(KY DR.sq), ⟨⟩⟩ ?_
 rintro _ _ ⟨f35, d36, rfl, rfl⟩
 refine ⟨.int .i64 Gl, [.row 0 2 1 33 (fun _ => v4.lit), .row 0 1 l7.length 5 f35, .row 0 2 1 33 (fun _ => [.own 3 0 0 lZ.a6.length, .own 4 0 0 lZ.aJ.length]), .row 0 6 lZ.a6.length 57 f16, .row 0 4 lZ.aJ.length 68 f18], rfl, aih, ?_⟩
 obtain ⟨QU, VE, BH⟩ := bd h
 replace h := VE
 refine .cut (fun σ η => .inl () = QU ∧ σ = [(0, sl 1 cB a0), (3, .aG 0 0 0 0), (4, .bool v5), (6, .aG 1 0 0 0)] ∧ η = [.row 0 2 1 33 (fun _ => v4.lit), .row 0 2 1 33 (fun _ => [.own 2 0 0 lZ.a6.length, .own 3 0 0 lZ.aJ.length]), .row 0 6 lZ.a6.length 57 f16, .row 0 4 lZ.aJ.length 68 f18]) ?_ ?_
 refine .d (sD h (fun sr h => ?_) (fun sr h => ?_))
 refine .t (.t (.t (.t (.t (.t (.t (.t (.t (.d ?_)))))))))
 exact agq
 refine ⟨rfl, _, rfl, (.f ⟨rfl, _, rfl, (.f (bk h fun pn Ba h => (Qc (pC Ba) ⟨.bD ⟨(.rd d17), (.rd d19), ⟨⟩⟩, .bD ⟨.l, .l, ⟨⟩⟩, ⟨⟩⟩ (.f (.f (hB h (fun T9 h => ?_) (fun T9 h => ?_)))))))⟩)⟩
 refine .t (.t (.t (.t (.d ?_))))
 exact agq
 refine .f (.f (.f (nq h (fun M6 h => ?_) (fun M6 h => ?_))))
 refine .d ?_
 exact agq
 exact ct ⟨si h, rfl, rfl⟩ (tk [0, 2, 3, 4] ⟨.l, .p, .b, .p, ⟨⟩⟩ ⟨(bn rfl), (nb rfl ⟨(.od (by first | rfl | exact d17.len | exact d17.len.symm)), (.od (by first | rfl | exact d19.len | exact d19.len.symm)), ⟨⟩⟩), (lv d17), (lv d19), ⟨⟩⟩)
 rintro _ _ ⟨rfl, rfl, rfl⟩
 replace h := BH
 refine .d (.d ⟨rfl, _, rfl, ?_⟩)
 obtain ⟨⟨Mh, v46⟩, Ua, h⟩ := bd h
 refine tR (yr (g1000 := 0) (g1001 := 0) Ua d17 d19) [2, 3] ⟨(KY d17), (KY d19), ⟨⟩⟩ ?_
 rintro _ _ ⟨f48, f50, d49, d51, rfl, rfl⟩
 refine ⟨.int .i64 Mh, [.row 0 2 1 33 (fun _ => v4.lit), .row 0 2 1 33 (fun _ => [.own 2 0 0 lZ.a6.length, .own 3 0 0 lZ.aJ.length]), .row 0 6 lZ.a6.length 57 f48, .row 0 4 lZ.aJ.length 68 f50], rfl, (by simp only [lN, eM, aec, aep, List.drop, As, adU, EB, red d49, red d51, red d17, red d19]; rfl), (.d (.d ⟨rfl, _, rfl, (bk h fun bT Uc h => (Qc (rB Uc) ⟨.bD ⟨(.rd d49 ahL), (.rd d51 ahK), ⟨⟩⟩, .i, ⟨⟩⟩ ?_))⟩))⟩
 obtain ⟨o54, acF, Zg⟩ := bd h
 replace h := acF
 refine .cut (fun σ η => .inl () = o54 ∧ σ = [(0, sl 1 cB a0), (3, .aG 0 0 0 0), (4, .bool v5), (6, .aG 1 0 0 0), (9, .int .i64 Mh), (10, .int .i64 bT)] ∧ η = [.row 0 2 1 33 (fun _ => v4.lit), .row 0 2 1 33 (fun _ => [.own 2 0 0 lZ.a6.length, .own 3 0 0 lZ.aJ.length]), .row 0 6 lZ.a6.length 57 f48, .row 0 4 lZ.aJ.length 68 f50]) ?_ ?_
 refine .d (sD h (fun Nq h => ?_) (fun Nq h => ?_))
 refine .d ?_
 obtain rfl := si h
 replace h := Zg
 exact eB h
 exact ct ⟨si h, rfl, rfl⟩ (tk [0, 1, 2, 3] ⟨.l, .p, .b, .p, .i, .i, ⟨⟩⟩ ⟨(bn rfl), (nb rfl ⟨(.od ahL), (.od ahK), ⟨⟩⟩), (lv d49), (lv d51), ⟨⟩⟩)
 rintro _ _ ⟨rfl, rfl, rfl⟩
 replace h := Zg
 refine .d (.d (sN h (fun EW h => ?_) (fun EW h => ?_)))
 exact agP
 refine .d (bk h fun v59 VF h => (bJ (sJ VF) ?_))
 obtain ⟨⟨yg, Ze⟩, acG, h⟩ := bd h
 refine Y7 (pR acG) ?_
 rintro _ _ ⟨f64, f66, d65, d67, rfl, rfl⟩
 refine ⟨.fu [.agg [.own 4 0 0 yg.a6.length, .own 5 0 0 yg.aJ.length], .bool Ze], [.row 0 2 1 33 (fun _ => v4.lit), .row 0 2 1 33 (fun _ => [.own 2 0 0 lZ.a6.length, .own 3 0 0 lZ.aJ.length]), .row 0 6 lZ.a6.length 57 f48, .row 0 4 lZ.aJ.length 68 f50, .row 0 6 yg.a6.length 57 f64, .row 0 4 yg.aJ.length 68 f66], rfl, (by simp only [aec, aep, shr, Y8 d65, Y8 d67]; rfl), ⟨rfl, _, fun _ => [.own 4 0 0 yg.a6.length, .own 5 0 0 yg.aJ.length], rfl, ar rfl, ?_⟩⟩
 obtain ⟨Xq, acH, VG⟩ := bd h
 replace h := acH
 refine .cut (fun σ η => .inl () = Xq ∧ σ = [(6, .aG 0 0 0 0), (9, .int .i64 Mh)] ∧ η = [.row 0 2 1 33 (fun _ => [.own 1 0 0 lZ.a6.length, .own 2 0 0 lZ.aJ.length]), .row 0 6 lZ.a6.length 57 f48, .row 0 4 lZ.aJ.length 68 f50]) ?_ ?_
 refine .d ⟨rfl, _, rfl, ⟨rfl, _, rfl, (bk h fun H4 acI h => (Qc (pC acI) ⟨.bD ⟨(.rd d65), (.rd d67), ⟨⟩⟩, .bD ⟨.l, .l, ⟨⟩⟩, ⟨⟩⟩ (hB h (fun acJ h => ?_) (fun acJ h => ?_))))⟩⟩
 refine .t (.t (.t (.t (.d ?_))))
 obtain rfl := si h
 replace h := VG
 exact eB h
 refine .f (.f (.f (nq h (fun Ni h => ?_) (fun Ni h => ?_))))
 refine .d ?_
 obtain rfl := si h
 replace h := VG
 exact eB h
 exact ct ⟨si h, rfl, rfl⟩ (tk [1, 2, 3] ⟨.p, .i, ⟨⟩⟩ ⟨(nb rfl ⟨(.od ahL), (.od ahK), ⟨⟩⟩), (lv d49), (lv d51), ⟨⟩⟩)
 rintro _ _ ⟨rfl, rfl, rfl⟩
 replace h := VG
 refine .d (.d ⟨rfl, _, rfl, (bk h fun v75 Iy h => (Qc (rB Iy) ⟨.bD ⟨(.rd d49 ahL), (.rd d51 ahK), ⟨⟩⟩, .i, ⟨⟩⟩ (.d (.d (sD h (fun M9 h => ?_) (fun M9 h => ?_))))))⟩)
 exact agP
 refine .d (.d (sN h (fun Uj h => ?_) (fun Uj h => ?_)))
 exact agP
 exact agP
theorem sb {α β : Type} (a : α) (f : α → Option β) : (some a >>= f) = f a := rfl
theorem ke {s : aU} {i : Nat} (h : i < s.length) : oF s (i : Int) = some (s.getD i 0) := by
 unfold oF; rw [if_pos ⟨by omega, by omega⟩]; rfl
theorem cC {α : Type} [Inhabited α] {l : List α} {i : Nat} (h : i < l.length) : idx l (i : Int) = some l[i] := by
 unfold idx; rw [if_pos ⟨by omega, by omega⟩]
 simp [adY, h]
theorem Kj {x : Int} {n : Nat} (h : x = (n : Int)) (hn : n ≤ 9223372036854775807) : ai x = (n : Int) := by
 subst h; exact Av ahw ahw
theorem ba {i : Nat} (h : i < 9223372036854775807) : ai ((i : Int) + 1) = ((i + 1 : Nat) : Int) := Kj ahw ahw
theorem kD {α : Type} {b : Nat} {l m : List α} (h : (l.length + m.length) * b ≤ 140737488355328) : im b l m = some (l ++ m) := if_pos h
theorem yI (a b c : Int) : wh a b c = some (decide (b ≤ a ∧ a ≤ c)) := by
 unfold wh
 by_cases h : a ≥ b
 ·rw [if_pos h]; congr 1; simp; omega
 ·rw [if_neg h]; congr 1; symm; rw [decide_eq_false_iff_not]; omega
theorem sK : ∀ (k u : Nat), u < 10 ^ (k + 1) → Lib.nDigits u ≤ k + 1
 | 0, u, h => by rw [Lib.nDigits_small ahT]; exact adV _
 | k + 1, u, h => by
  by_cases h1 : u < 10
  ·rw [Lib.nDigits_small h1]; omega
  ·rw [Lib.nDigits_big h1]
   have := sK k (u / 10) (by rw [Nat.pow_succ] at h; omega)
   omega
theorem lb (u : Nat) : Lib.decDigits u = (if u / 10 = 0 then [] else Lib.decDigits (u / 10)) ++ [UInt8.ofNat (48 + u % 10)] := by
 by_cases h : u < 10
 ·rw [if_pos ahw, Lib.decDigits, dif_pos h, show u % 10 = u by omega]; rfl
 ·rw [if_neg ahw]
  conv => lhs; rw [Lib.decDigits, dif_neg h]
theorem Oc : ∀ (k : Nat) (out : aU) (m : Int), m.natAbs < 10 ^ k → -9223372036854775808 ≤ m → m ≤ 9223372036854775807 → k + out.length ≤ 1000 →
  uh out m = some ((if m = 0 then [] else Lib.decDigits m.natAbs) ++ out)
 | 0, out, m, h, _, _, _ => by
  have : m = 0 := by simp at h; exact h
  subst this
  rw [uh, if_pos rfl, if_pos rfl]; rfl
 | k + 1, out, m, h, h0, h1, ho => by
  rw [uh]
  by_cases hm : m = 0
  ·rw [if_pos hm, if_pos hm]; rfl
  rw [if_neg hm, if_neg hm]
  have ab : (m.tmod 10).natAbs = m.natAbs % 10 := Int.natAbs_tmod m 10
  have ad : (m.tdiv 10).natAbs = m.natAbs / 10 := Int.natAbs_tdiv m 10
  have dv : ai (m.tdiv 10) = m.tdiv 10 := by rw [ai, Av] <;> omega
  have fin : ∀ d : Int, d = ((m.natAbs % 10 : Nat) : Int) → UInt8.ofNat (IntKind.u8.wrap (ai (48 + d))).toNat = UInt8.ofNat (48 + m.natAbs % 10) := fun d hd => by
   subst hd
   rw [ai, Av ahw ahw, IntKind.wrap_u8]
   congr 1
   omega
  have next : uh ([UInt8.ofNat (48 + m.natAbs % 10)] ++ out) (ai (m.tdiv 10)) = some (Lib.decDigits m.natAbs ++ out) := by
   rw [dv, Oc k _ _ (by rw [Nat.pow_succ] at h; omega) ahw ahw ahC, lb m.natAbs, ad, aeG]
   by_cases h : m.tdiv 10 = 0
   ·rw [if_pos h, if_pos ahw]
   ·rw [if_neg h, if_neg ahw]
  have hs : ∀ b : UInt8, nz [b] out = some ([b] ++ out) := fun b => if_pos ahC
  by_cases hn : m.tmod 10 < 0
  ·rw [if_pos hn, hs, sb, fin _ (by rw [ai, Av] <;> omega), next]
  ·rw [if_neg hn, hs, sb, fin _ ahw, next]
theorem VH (n : Int) (h0 : -9223372036854775808 ≤ n) (h1 : n ≤ 9223372036854775807) : Zh n = some (Lib.itoa n) := by
 unfold Zh
 by_cases h : n = 0
 ·subst h; rw [if_pos rfl, show Lib.itoa 0 = [48] by decide +kernel]
 rw [if_neg h, Oc 20 [] n (by simp only [Nat.reducePow]; omega) h0 h1 ahy, sb, if_neg h, aeI]
 unfold Lib.itoa
 have hL : (Lib.decDigits n.natAbs).length ≤ 20 := by rw [Lib.decDigits_length]; exact sK 19 _ ahJ
 by_cases hn : n < 0
 ·rw [if_pos hn, if_pos hn, nz, if_pos ahC]; rfl
 ·rw [if_neg hn, if_neg hn, show n.natAbs = n.toNat by omega]
def Zi (s : List UInt8) : Option Nat → Option Nat
 | some v => if v ≤ 1000000000000 ∧ Lib.decDigits v = s then some v else none
 | none => none
def jj (s : List UInt8) : Option Nat := if 1 ≤ s.length ∧ s.length ≤ 13 then Zi s (Lib.decFrom 0 s) else none
theorem pd {v : Nat} {c : UInt8} {r : List UInt8} (h : 48 ≤ c.toNat ∧ c.toNat ≤ 57) : Lib.decFrom v (c :: r) = Lib.decFrom (v * 10 + (c.toNat - 48)) r := by
 show (match Lib.digitVal c with | some d => Lib.decFrom (v * 10 + d) r | none => none) = _
 rw [Lib.digitVal, if_pos h]
theorem qz {v : Nat} {c : UInt8} {r : List UInt8} (h : ¬ (48 ≤ c.toNat ∧ c.toNat ≤ 57)) : Lib.decFrom v (c :: r) = none := by
 show (match Lib.digitVal c with | some d => Lib.decFrom (v * 10 + d) r | none => none) = _
 rw [Lib.digitVal, if_neg h]
theorem drop_cons {s : aU} {i : Nat} (h : i < s.length) : s.drop i = s.getD i 0 :: s.drop (i + 1) := by
 rw [aeg h, adY]; simp [h]
theorem Od (s : aU) (hs : s.length ≤ 13) : ∀ (n i v : Nat), i ≤ s.length → s.length - i = n → v < 10 ^ i →
  wu s (v : Int) (i : Int) = some (match Lib.decFrom v (s.drop i) with | some u => .inl (u : Int) | none => .inr (0, false))
 | 0, i, v, hi, hn, hv => by
  have e : i = s.length := by omega
  rw [wu, if_neg ahw, e, afE]; rfl
 | n + 1, i, v, hi, hn, hv => by
  have hl : i < s.length := by omega
  have tz : v < 10000000000000 := aet hv (Nat.pow_le_pow_right ahx (show i ≤ 13 by omega))
  have hc := (s.getD i 0).toNat_lt
  rw [wu, if_pos ahw, ke hl, sb, yI, sb, ai, Av ahw ahw, drop_cons hl]
  by_cases hd : 48 ≤ (s.getD i 0).toNat ∧ (s.getD i 0).toNat ≤ 57
  ·rw [if_pos aic, sb, pd hd]
   have e1 : IntKind.u8.wrap (((s.getD i 0).toNat : Int) - 48) = (((s.getD i 0).toNat - 48 : Nat) : Int) := by rw [IntKind.wrap_u8]; omega
   have e2 : IntKind.i64.wrap (IntKind.i64.wrap (10 * (v : Int)) + IntKind.i64.wrap (IntKind.u8.wrap (((s.getD i 0).toNat : Int) - 48))) = ((v * 10 + ((s.getD i 0).toNat - 48) : Nat) : Int) := by
    rw [e1, Av (x := 10 * (v : Int)) ahw ahw, Av (x := (((s.getD i 0).toNat - 48 : Nat) : Int)) ahw ahw, Av ahw ahw]
    omega
   rw [ai, ai, ai, e2, ba ahw, Od s hs n (i + 1) _ ahw ahw (by rw [Nat.pow_succ]; omega)]
  ·rw [if_neg aic, qz hd]
def nbW : Option Nat → Int × Bool
 | some v => ((v : Int), true)
 | none => (0, false)
theorem I3 (s : aU) : Zj s = some (nbW (jj s)) := by
 unfold Zj jj
 rw [yI, sb]
 by_cases h : 1 ≤ s.length ∧ s.length ≤ 13
 ·rw [if_pos aic, if_pos h]
  have e := Od s h.2 s.length 0 0 ahw ahw ahy
  rw [afp] at e
  replace e : wu s 0 0 = _ := e
  rw [e, sb]
  cases hd : Lib.decFrom 0 s with
  | none => rfl
  | some u =>
   show (if (u : Int) > 1000000000000 then some (0, false) else _) = some (nbW (if u ≤ 1000000000000 ∧ Lib.decDigits u = s then some u else none))
   by_cases h1 : (u : Int) > 1000000000000
   ·rw [if_pos h1, if_neg ahw]; rfl
   ·rw [if_neg h1, VH _ ahw ahw, sb, Lib.itoa_nonneg]
    by_cases h2 : Lib.decDigits u = s
    ·rw [if_pos h2, if_pos ⟨by omega, h2⟩]; rfl
    ·rw [if_neg h2, if_neg (fun h => h2 h.2)]; rfl
 ·rw [if_neg aic, if_neg h]; rfl
def I4 : Option Nat → Option Int
 | some v => if v ≤ 1000000000 then some (v : Int) else none
 | none => none
def I5 : Option Nat → Option Int
 | some v => if v ≤ 1000000000 ∧ v ≠ 0 then some (-(v : Int)) else none
 | none => none
def sp (s : aU) : Option Int := if s.head? = some 45 then I5 (jj s.tail) else I4 (jj s)
def P7 : Option Int → Int × Bool
 | some v => (v, true)
 | none => (0, false)
theorem IJ (s : aU) : Xr s = some (P7 (sp s)) := by
 unfold Xr sp
 cases s with
 | nil => rw [if_neg ahy, sb, if_neg ahx, sb, I3, sb]; rfl
 | cons c r =>
  have e0 : oF (c :: r) 0 = some c := ke (s := c :: r) (i := 0) ahy
  rw [if_pos ahy, e0, sb, sb]
  by_cases h : c = 45
  ·subst h
   rw [if_pos ahx, if_pos (show (45 :: r).head? = some 45 from rfl)]
   have e1 : tm (45 :: r) 1 = some r := by unfold tm; rw [if_pos ⟨by omega, by simp only [As]; omega⟩]; rfl
   rw [e1, sb, sb, I3, sb]
   show (match nbW (jj r) with | (tW, du) => _) = some (P7 (I5 (jj r)))
   cases hp : jj r with
   | none => rfl
   | some v =>
    show (if (v : Int) > 1000000000 then some (0, false) else if (UInt8.toNat 45 : Int) == 45 then _ else _) = some (P7 (if v ≤ 1000000000 ∧ v ≠ 0 then some (-(v : Int)) else none))
    by_cases h1 : (v : Int) > 1000000000
    ·rw [if_pos h1, if_neg ahw]; rfl
    ·rw [if_neg h1, if_pos ahx]
     by_cases h2 : (v : Int) = 0
     ·rw [if_pos h2, if_neg ahw]; rfl
     ·rw [if_neg h2, if_pos ahw]
      show some (IntKind.i64.wrap (0 - (v : Int)), true) = some ((-(v : Int)), true)
      rw [Av ahw ahw, Int.zero_sub]
  ·have hb : (((c.toNat : Int) == 45) : Bool) = false := by
    rw [beq_eq_false_iff_ne]
    intro hc
    exact h (afl.1 (show c.toNat = (45 : UInt8).toNat by simp; omega))
   rw [if_neg (by rw [hb]; decide), sb, if_neg ahT, I3, sb, hb]
   cases hp : jj (c :: r) with
   | none => rfl
   | some v =>
    show (if (v : Int) > 1000000000 then some (0, false) else if (false = true) then _ else _) = some (P7 (if v ≤ 1000000000 then some (v : Int) else none))
    by_cases h1 : (v : Int) > 1000000000
    ·rw [if_pos h1, if_neg ahw]; rfl
    ·rw [if_neg h1, if_neg ahx, if_pos ahw]; rfl
theorem Bu {n : Int} (h0 : -1000000000 ≤ n) (h1 : n ≤ 1000000000) : (Lib.itoa n).length ≤ 11 := by
 unfold Lib.itoa
 split
 ·simp only [As]
  rw [Lib.decDigits_length]
  have := sK 9 n.natAbs ahJ
  omega
 ·rw [Lib.decDigits_length]
  have := sK 9 n.toNat ahJ
  omega
theorem zL {n : Int} (h0 : 0 ≤ n) (h1 : n ≤ 1000000000) : (Lib.decDigits n.toNat).length ≤ 10 := by
 rw [Lib.decDigits_length]
 exact sK 9 n.toNat ahJ
def BI (s : aU) (o : Option Int) : Option Int :=
 match o with | some n => if Lib.itoa n = s ∧ (-1000000000 : Int) ≤ n ∧ n ≤ 1000000000 then some n else none | none => none
theorem Oe (s : aU) (hl : s.length ≤ 18) : pw s (-1000000000) 1000000000 = BI s (Lib.atoi s) := by
 unfold pw BI
 rw [if_neg ahw, Lib.atoiAll_short s hl]
 cases Lib.atoi s <;> rfl
theorem QV (s : aU) (hl : 11 < s.length) : pw s (-1000000000) 1000000000 = none := by
 unfold pw
 split
 ·rfl
 ·split
  ·rw [if_neg]
   intro h
   have := Bu h.2.1 h.2.2
   rw [h.1] at this
   omega
  ·rfl
theorem I6 (s : aU) (hl : 11 < s.length) : I4 (jj s) = none := by
 unfold jj
 split
 ·cases Lib.decFrom 0 s with
  | none => rfl
  | some v =>
   show I4 (if v ≤ 1000000000000 ∧ Lib.decDigits v = s then some v else none) = none
   by_cases h : v ≤ 1000000000000 ∧ Lib.decDigits v = s
   ·rw [if_pos h]
    show (if v ≤ 1000000000 then some (v : Int) else none) = none
    rw [if_neg]
    intro hv
    have := zL (n := (v : Int)) ahw ahw
    rw [aeh, h.2] at this
    omega
   ·rw [if_neg h]; rfl
 ·rfl
theorem G5 (s : aU) (hl : 10 < s.length) : I5 (jj s) = none := by
 unfold jj
 split
 ·cases Lib.decFrom 0 s with
  | none => rfl
  | some v =>
   show I5 (if v ≤ 1000000000000 ∧ Lib.decDigits v = s then some v else none) = none
   by_cases h : v ≤ 1000000000000 ∧ Lib.decDigits v = s
   ·rw [if_pos h]
    show (if v ≤ 1000000000 ∧ v ≠ 0 then some (-(v : Int)) else none) = none
    rw [if_neg]
    intro hv
    have := zL (n := (v : Int)) ahw ahw
    rw [aeh, h.2] at this
    omega
   ·rw [if_neg h]; rfl
 ·rfl
theorem QW (c : UInt8) (r : aU) (hl : (c :: r).length ≤ 11) (Zk : c ≠ 45) (h43 : c ≠ 43) : BI (c :: r) (Lib.atoi (c :: r)) = I4 (jj (c :: r)) := by
 have ea : Lib.atoi (c :: r) = (Lib.decFrom 0 (c :: r)).map fun (m : Nat) => (m : Int) := by
  show (if c == 45 then _ else if c == 43 then _ else (Lib.decNat (c :: r)).map fun (m : Nat) => (m : Int)) = _
  rw [if_neg (by simpa using Zk), if_neg (by simpa using h43)]
  rfl
 have eP : jj (c :: r) = Zi (c :: r) (Lib.decFrom 0 (c :: r)) := by unfold jj; rw [if_pos ⟨by simp, by omega⟩]
 rw [ea, eP]
 cases hd : Lib.decFrom 0 (c :: r) with
 | none => rfl
 | some v =>
  show (if Lib.itoa (v : Int) = c :: r ∧ (-1000000000 : Int) ≤ v ∧ (v : Int) ≤ 1000000000 then some (v : Int) else none) = I4 (if v ≤ 1000000000000 ∧ Lib.decDigits v = c :: r then some v else none)
  rw [Lib.itoa_nonneg]
  by_cases h2 : Lib.decDigits v = c :: r
  ·by_cases h3 : v ≤ 1000000000
   ·rw [if_pos ⟨h2, by omega, by omega⟩, if_pos ⟨by omega, h2⟩]
    show _ = if v ≤ 1000000000 then some (v : Int) else none
    rw [if_pos h3]
   ·rw [if_neg (fun h => h3 (by have := h.2.2; omega))]
    by_cases h4 : v ≤ 1000000000000
    ·rw [if_pos ⟨h4, h2⟩]
     show _ = if v ≤ 1000000000 then some (v : Int) else none
     rw [if_neg h3]
    ·rw [if_neg (fun h => h4 h.1)]; rfl
  ·rw [if_neg (fun h => h2 h.1), if_neg (fun h => h2 h.2)]; rfl
theorem G6 (u : Nat) : ∀ c r, Lib.decDigits u = c :: r → 48 ≤ c.toNat := by
 intro c r h
 have hm : c ∈ Lib.decDigits u := by rw [h]; simp
 rw [Lib.decDigits_eq, aej] at hm
 obtain ⟨t, _, rfl⟩ := hm
 unfold Lib.dg
 simp
 omega
theorem NF (s : aU) : pw s (-1000000000) 1000000000 = sp s := by
 by_cases hl : 11 < s.length
 ·rw [QV s hl]
  unfold sp
  split
  ·exact (G5 _ ahC).symm
  ·exact (I6 _ hl).symm
 rw [Oe s ahw]
 cases s with
 | nil => rfl
 | cons c r =>
  unfold sp
  by_cases Zk : c = 45
  ·subst Zk
   show BI (45 :: r) (Lib.atoi (45 :: r)) = if some (45 : UInt8) = some 45 then I5 (jj r) else I4 (jj (45 :: r))
   rw [if_pos rfl]
   show BI (45 :: r) ((Lib.decNat r).map fun (m : Nat) => -(m : Int)) = I5 (jj r)
   simp only [As] at hl
   unfold Lib.decNat jj
   cases r with
   | nil => rfl
   | cons d r =>
    rw [if_neg ahy, if_pos ⟨by simp, by omega⟩]
    cases hd : Lib.decFrom 0 (d :: r) with
    | none => rfl
    | some v =>
     show (if Lib.itoa (-(v : Int)) = 45 :: d :: r ∧ (-1000000000 : Int) ≤ -(v : Int) ∧ -(v : Int) ≤ 1000000000 then some (-(v : Int)) else none) = I5 (if v ≤ 1000000000000 ∧ Lib.decDigits v = d :: r then some v else none)
     by_cases h0 : v = 0
     ·subst h0
      rw [if_neg]
      ·by_cases h4 : (0 ≤ 1000000000000 ∧ Lib.decDigits 0 = d :: r)
       ·rw [if_pos h4]; rfl
       ·rw [if_neg h4]; rfl
      ·intro h
       have := h.1
       rw [show Lib.itoa (-((0 : Nat) : Int)) = [48] by decide +kernel] at this
       simp at this
     ·rw [Lib.itoa_neg v ahw]
      by_cases h2 : Lib.decDigits v = d :: r
      ·by_cases h3 : v ≤ 1000000000
       ·rw [if_pos ⟨by rw [h2], by omega, by omega⟩, if_pos ⟨by omega, h2⟩]
        show _ = if v ≤ 1000000000 ∧ v ≠ 0 then some (-(v : Int)) else none
        rw [if_pos ⟨h3, h0⟩]
       ·rw [if_neg (fun h => h3 (by have := h.2.1; omega))]
        by_cases h4 : v ≤ 1000000000000
        ·rw [if_pos ⟨h4, h2⟩]
         show _ = if v ≤ 1000000000 ∧ v ≠ 0 then some (-(v : Int)) else none
         rw [if_neg (fun h => h3 h.1)]
        ·rw [if_neg (fun h => h4 h.1)]; rfl
      ·rw [if_neg (fun h => h2 (by simpa using h.1)), if_neg (fun h => h2 h.2)]; rfl
  ·rw [if_neg (by simpa using Zk)]
   by_cases h43 : c = 43
   ·subst h43
    have eP : I4 (jj (43 :: r)) = none := by
     unfold jj
     split
     ·rw [qz ahx]; rfl
     ·rfl
    rw [eP]
    show BI (43 :: r) ((Lib.decNat r).map fun (m : Nat) => (m : Int)) = none
    cases Lib.decNat r with
    | none => rfl
    | some v =>
     show (if Lib.itoa (v : Int) = 43 :: r ∧ _ then some (v : Int) else none) = none
     rw [if_neg]
     intro h
     have h1 := h.1
     rw [Lib.itoa_nonneg] at h1
     exact absurd (G6 v _ _ h1) ahx
   ·exact QW c r ahw Zk h43
theorem ae.eta (e : ae) : ae.mk e.bm e.aY = e := by cases e; rfl
theorem ah.eta (v : ah) : ah.mk v.aF v.aP v.aQ v.aO v.af = v := by cases v; rfl
theorem bH.eta (k : bH) : bH.mk k.df k.aP k.aQ = k := rfl
inductive Sm : ah → Prop
 | mk {k n : Int} {s : aU} {x : Int} {l : List ae} (h : l.length ≤ 2000000) (hl : ∀ e ∈ l, Sm e.aY) : Sm (.mk k n s x l)
theorem Sm.len {v : ah} (h : Sm v) : v.af.length ≤ 2000000 := by cases h; assumption
theorem Sm.of {v : ah} (h : v.af.length ≤ 2000000) (hl : ∀ e ∈ v.af, Sm e.aY) : Sm v := by
 cases v; exact .mk h hl
def vk (k : bH) : Bool :=
 if k.df = true then (if k.aP = 0 then (if (k.aQ.length : Int) ≤ 400 then !(P7 (sp k.aQ)).2 else false) else false)
 else (if decide ((-1000000000 : Int) ≤ k.aP ∧ k.aP ≤ 1000000000) = true then (k.aQ == ([] : aU)) else false)
theorem VI (k : bH) : m23 k = some (vk k) := by
 unfold m23 vk
 split
 ·rw [IJ, sb]
  show (if k.aP = 0 then _ else _) = _
  split
  ·split <;> rfl
  ·rfl
 ·rw [yI, sb]
  split <;> rfl
theorem Nx (s : aU) : Nw s (-1000000000) 1000000000 = some (P7 (sp s)) := by
 unfold Nw
 rw [NF]
 cases sp s <;> rfl
theorem VJ (k : bH) : VK k = some (vk k) := by
 unfold VK vk
 split
 ·unfold H3
  rw [Nx, sb]
  show (if k.aP = 0 then _ else _) = _
  split
  ·split <;> rfl
  ·rfl
 ·split
  ·rename_i h
   unfold zu
   rw [h]
   by_cases h1 : (-1000000000 : Int) ≤ k.aP
   ·rw [if_pos h1, sb]
    by_cases h2 : k.aP ≤ 1000000000
    ·rw [if_pos ahC, decide_eq_true h2]; rfl
    ·rw [if_neg ahC, decide_eq_false h2]
   ·rw [if_neg h1, sb, if_neg ahC]
  ·rename_i h
   split
   ·rw [beq_eq_false_iff_ne.2 h]
   ·rfl
def At (l : List ae) (k : bH) (r : Int) : Prop :=
 (r = -1 ∧ ∀ e ∈ l, e.bm ≠ k) ∨ ∃ j, ∃ h : j < l.length, r = (j : Int) ∧ l[j].bm = k ∧ ∀ i, ∀ hi : i < j, (l[i]'ahw).bm ≠ k
theorem At.uniq {l : List ae} {k : bH} {r : Int} {j : Nat} (h : At l k r) (hj : j < l.length) (he : l[j].bm = k) (hf : ∀ i, ∀ hi : i < j, (l[i]'ahw).bm ≠ k) : r = (j : Int) := by
 rcases h with ⟨_, h⟩ | ⟨i, hi, e, h1, h2⟩
 ·exact absurd he (h _ (aee hj))
 ·rcases Nat.lt_trichotomy i j with h3 | h3 | h3
  ·exact absurd h1 (hf i h3)
  ·rw [e, h3]
  ·exact absurd he (h2 j h3)
theorem VM (v : ah) (k : bH) (hk : v.aF = 4) (hl : v.af.length ≤ 4000000) : ∀ m i : Nat, i ≤ v.af.length → v.af.length - i = m →
  (∀ j, ∀ hj : j < i, ∀ hj2 : j < v.af.length, v.af[j].bm ≠ k) → ∃ r, wi v k (i : Int) = some r ∧ ((r = .inl () ∧ ∀ e ∈ v.af, e.bm ≠ k) ∨ ∃ q, r = .inr q ∧ At v.af k q) := by
 intro m
 induction m with
 | zero =>
  intro i h1 h2 h3
  rw [wi, if_pos hk, if_neg ahw]
  refine ⟨_, rfl, .inl ⟨rfl, fun e he => ?_⟩⟩
  obtain ⟨j, hj, rfl⟩ := aeM.1 he
  exact h3 j ahw hj
 | succ m ihm =>
  intro i h1 h2 h3
  have bO : i < v.af.length := by omega
  rw [wi, if_pos hk, if_pos ahw, cC bO, sb]
  by_cases he : v.af[i].bm = k
  ·rw [if_pos he]
   exact ⟨_, rfl, .inr ⟨_, rfl, .inr ⟨i, bO, rfl, he, fun j hj => h3 j hj ahw⟩⟩⟩
  ·rw [if_neg he, ba ahw]
   refine ihm (i + 1) ahw ahw (fun j hj hj2 => ?_)
   rcases aeE j i with h4 | h4
   ·exact h3 j h4 hj2
   ·obtain rfl : j = i := by omega
    exact he
theorem VN (v : ah) (k : bH) (hk : v.aF = 4) (hl : v.af.length ≤ 4000000) : ∃ r, P5 v k = some r ∧ At v.af k r := by
 obtain ⟨r, e, h⟩ := VM v k hk hl v.af.length 0 ahw ahw (fun j hj => absurd hj (aey _))
 replace e : wi v k 0 = some r := e
 unfold P5
 rw [e, sb]
 rcases h with ⟨rfl, h⟩ | ⟨q, rfl, h⟩
 ·exact ahr
 ·exact ⟨_, rfl, h⟩
theorem zM : ∀ (a b : aU) (v : Nat), Lib.decFrom v (a ++ b) = (Lib.decFrom v a).bind (fun u => Lib.decFrom u b)
 | [], b, v => rfl
 | c :: r, b, v => by
  by_cases h : 48 ≤ c.toNat ∧ c.toNat ≤ 57
  ·rw [afc, pd h, pd h, zM r b]
  ·rw [afc, qz h, qz h]; rfl
theorem DJ {d : Nat} (h : d < 10) : (UInt8.ofNat (48 + d)).toNat = 48 + d := by rw [afv]; omega
theorem sL : ∀ (n u : Nat), u ≤ n → ∀ c ∈ Lib.decDigits u, 48 ≤ c.toNat ∧ c.toNat ≤ 57
 | n, u, h, c, hc => by
  rw [lb u] at hc
  have hd := DJ (afN u (show 0 < 10 by omega))
  rcases aea.1 hc with h1 | h1
  ·split at h1
   ·cases h1
   ·rename_i h2
    cases n with
    | zero => omega
    | succ n => exact sL n (u / 10) ahw c h1
  ·rw [aeW] at h1
   subst h1
   rw [hd]; omega
theorem yN : ∀ (n u : Nat), u ≤ n → Lib.decFrom 0 (Lib.decDigits u) = some u
 | n, u, h => by
  rw [lb u, zM]
  have hd := DJ (afN u (show 0 < 10 by omega))
  have last : ∀ v : Nat, Lib.decFrom v [UInt8.ofNat (48 + u % 10)] = some (v * 10 + u % 10) := fun v => by
   rw [pd (by rw [hd]; omega), hd]
   simp [Lib.decFrom]
  split
  ·rename_i h2
   show Lib.decFrom 0 _ = _
   rw [last]
   congr 1
   omega
  ·rename_i h2
   cases n with
   | zero => omega
   | succ n =>
    rw [yN n (u / 10) ahw]
    show Lib.decFrom (u / 10) _ = _
    rw [last]
    congr 1
    omega
theorem G7 (u : Nat) : ∃ c r, Lib.decDigits u = c :: r ∧ 48 ≤ c.toNat ∧ c.toNat ≤ 57 := by
 cases h : Lib.decDigits u with
 | nil => rw [lb u] at h; simp at h
 | cons c r => exact ⟨c, r, rfl, sL u u (adV _) c (by rw [h]; simp)⟩
theorem yH (n : Int) : Lib.atoi (Lib.itoa n) = some n := by
 unfold Lib.itoa
 split
 ·rename_i hn
  obtain ⟨c, r, h1, h2⟩ := G7 n.natAbs
  have hr := yN n.natAbs n.natAbs (adV _)
  rw [h1] at hr ⊢
  unfold Lib.atoi Lib.decNat
  simp [hr]
  omega
 ·rename_i hn
  obtain ⟨c, r, h1, h2⟩ := G7 n.toNat
  have hr := yN n.toNat n.toNat (adV _)
  rw [h1] at hr ⊢
  unfold Lib.atoi Lib.decNat
  have e1 : ¬ c = 45 := fun h => by subst h; simp at h2
  have e2 : ¬ c = 43 := fun h => by subst h; simp at h2
  simp [e1, e2, hr]
  omega
theorem GG (n : Int) : ∀ c ∈ Lib.itoa n, c.toNat ≤ 57 := by
 intro c hc
 unfold Lib.itoa at hc
 split at hc
 ·rcases aed.1 hc with rfl | h
  ·decide
  ·exact (sL _ _ (adV _) c h).2
 ·exact (sL _ _ (adV _) c hc).2
theorem iS {n : Int} (h0 : -1000000000000 ≤ n) (h1 : n ≤ 1000000000000) : (Lib.itoa n).length ≤ 14 := by
 unfold Lib.itoa
 split
 ·simp only [As]
  rw [Lib.decDigits_length]
  have := sK 12 n.natAbs ahJ
  omega
 ·rw [Lib.decDigits_length]
  have := sK 12 n.toNat ahJ
  omega
theorem Kh {n lo hi : Int} (h0 : -1000000000000 ≤ n) (h1 : n ≤ 1000000000000) (h2 : lo ≤ n) (h3 : n ≤ hi) : pw (Lib.itoa n) lo hi = some n := by
 have hl := iS h0 h1
 unfold pw
 rw [if_neg ahw, Lib.atoiAll_short _ ahw, yH]
 show (if Lib.itoa n = Lib.itoa n ∧ lo ≤ n ∧ n ≤ hi then some n else none) = some n
 rw [if_pos ⟨rfl, h2, h3⟩]
theorem GH {n lo hi : Int} (h0 : -1000000000000 ≤ n) (h1 : n ≤ 1000000000000) (h2 : lo ≤ n) (h3 : n ≤ hi) : Nw (Lib.itoa n) lo hi = some (n, true) := by
 unfold Nw; rw [Kh h0 h1 h2 h3]
theorem GJ (s : aU) (lo hi : Int) : ∃ n b, Nw s lo hi = some (n, b) ∧ (b = true → lo ≤ n ∧ n ≤ hi) ∧ (b = false → n = 0) := by
 unfold Nw
 cases h : pw s lo hi with
 | none => exact ⟨0, false, rfl, fun h => (Bool.noConfusion h), fun _ => rfl⟩
 | some n =>
  refine ⟨n, true, rfl, fun _ => ?_, fun h => Bool.noConfusion h⟩
  unfold pw at h
  split at h
  ·cases h
  ·split at h
   ·split at h
    ·rename_i h1
     cases h
     exact h1.2
    ·cases h
   ·cases h
theorem UH {n : Int} (h0 : -9223372036854775808 ≤ n) (h1 : n ≤ 9223372036854775807) : m73 n = some (Lib.itoa n) := if_pos ⟨h0, h1⟩
theorem js {a b : aU} (h : a.length + b.length ≤ 4611686018427387904) : nz a b = some (a ++ b) := if_pos h
theorem Of {l : List ae} {k : bH} {i : Nat} (h : At l k (i : Int)) (hi : i < l.length) : ∀ j, ∀ hj : j < i, (l[j]'ahw).bm ≠ k := by
 rcases h with ⟨h, _⟩ | ⟨j, hj, e, h1, h2⟩
 ·omega
 ·obtain rfl : i = j := by omega
  exact h2
mutual
def ah.wt : ah → Nat | .mk _ _ _ _ l => 1 + ae.wm l
def ae.wt : ae → Nat | .mk _ v => v.wt
def ae.wm : List ae → Nat | [] => 0 | x :: r => x.wt + ae.wm r
end
theorem ah.oQ (v : ah) : v.wt = 1 + ae.wm v.af := by cases v; simp [ah.wt]
theorem ae.oQ (e : ae) : e.wt = e.aY.wt := by cases e; simp [ae.wt]
theorem kA (v : ah) : 1 ≤ v.wt := by rw [v.oQ]; omega
theorem AO : ae.wm [] = 0 := by simp [ae.wm]
theorem la (x : ae) (r : List ae) : ae.wm (x :: r) = x.aY.wt + ae.wm r := by rw [← x.oQ]; simp [ae.wm]
theorem Kg : ∀ a b : List ae, ae.wm (a ++ b) = ae.wm a + ae.wm b
 | [], b => by rw [aeQ, AO, adX]
 | x :: r, b => by rw [afc, la, la, Kg r b]; omega
theorem Fb : ∀ (l : List ae) (e : ae), e ∈ l → e.aY.wt ≤ ae.wm l
 | x :: r, e, h => by
  rw [la]
  rcases aed.1 h with rfl | h
  ·omega
  ·have := Fb r e h; omega
theorem Fa : ∀ l : List ae, l.length ≤ ae.wm l
 | [] => by simp
 | x :: r => by rw [la]; have := Fa r; have := kA x.aY; simp only [As]; omega
theorem qY {v : ah} : v.af.length < v.wt := by rw [v.oQ]; have := Fa v.af; omega
theorem nQ {v : ah} {e : ae} (he : e ∈ v.af) : e.aY.wt < v.wt := by rw [v.oQ]; have := Fb _ e he; omega
mutual
def ah.kw : ah → Nat | .mk k _ _ _ l => if k = 4 then 1 + ae.AL l else 1
def ae.kw : ae → Nat | .mk _ v => v.kw
def ae.AL : List ae → Nat | [] => 0 | x :: r => x.kw + ae.AL r
end
theorem ah.uc (v : ah) : v.kw = if v.aF = 4 then 1 + ae.AL v.af else 1 := by cases v; unfold ah.kw; rfl
theorem ae.uc (e : ae) : e.kw = e.aY.kw := by cases e; simp [ae.kw]
theorem Fm : ae.AL [] = 0 := by simp [ae.AL]
theorem ud (x : ae) (r : List ae) : ae.AL (x :: r) = x.aY.kw + ae.AL r := by rw [← x.uc]; simp [ae.AL]
theorem Og (n : Nat) (ih : ∀ v : ah, v.wt ≤ n → v.kw ≤ v.wt) : ∀ l : List ae, ae.wm l ≤ n → ae.AL l ≤ ae.wm l
 | [], _ => by rw [Fm]; omega
 | x :: r, h => by
  rw [la] at h
  rw [ud, la]
  have := ih x.aY ahw
  have := Og n ih r ahw
  omega
theorem Kp : ∀ (n : Nat) (v : ah), v.wt ≤ n → v.kw ≤ v.wt
 | 0, v, h => by have := kA v; omega
 | n + 1, v, h => by
  have h' := h
  rw [v.oQ] at h'
  rw [v.uc, v.oQ]
  split
  ·have := Og n (Kp n) v.af ahw; omega
  ·omega
theorem SE (v : ah) : v.kw ≤ v.wt := Kp _ v (adV _)
theorem yF (v : ah) : 1 ≤ v.kw := by rw [v.uc]; split <;> omega
theorem xf {l : List ae} {i : Nat} (h : i < l.length) : ae.AL (l.drop i) = l[i].aY.kw + ae.AL (l.drop (i + 1)) := by rw [aeg h, ud]
theorem Bs : ∀ (l : List ae) (i : Nat), ae.AL (l.drop i) ≤ ae.AL l
 | l, 0 => by simp
 | [], i + 1 => by simp
 | x :: r, i + 1 => by rw [List.drop_succ_cons, ud]; have := Bs r i; omega
theorem o6 {x : Int} {n : Nat} (h : x = (n : Int)) (hn : n < 9000000000000000000) : ai x = (n : Int) := by subst h; rw [ai, Av ahw ahw]
theorem yE : ∀ (n : Nat), n ≤ 2000000 → ∀ v : ah, v.wt ≤ n → mj v = some (v.kw : Int)
 | 0, _, v, h => by have := kA v; omega
 | n + 1, hn, v, h => by
  have hlen := qY (v := v)
  have hkw := SE v
  rw [mj, v.uc]
  by_cases hk : v.aF = 4
  ·rw [v.uc, if_pos hk] at hkw
   have go : ∀ m i : Nat, i ≤ v.af.length → v.af.length - i = m → ∀ y : Nat, y + ae.AL (v.af.drop i) = 1 + ae.AL v.af → jk v (y : Int) (i : Int) = some ((1 + ae.AL v.af : Nat) : Int) := by
    intro m
    induction m with
    | zero =>
     intro i h1 h2 y hy
     rw [jk, if_neg ahw]
     rw [aeS ahw, Fm] at hy
     rw [← hy]; rfl
    | succ m ihm =>
     intro i h1 h2 y hy
     have bO : i < v.af.length := by omega
     rw [xf bO] at hy
     have Sn := nQ (aee bO)
     rw [jk, if_pos ahw, cC bO, sb, yE n ahw _ ahw, sb, ba ahw, o6 (n := y + v.af[i].aY.kw) ahw ahw]
     exact ihm (i + 1) ahw ahw _ ahw
   have e := go v.af.length 0 ahw ahw 1 ahy
   replace e : jk v 1 0 = some ((1 + ae.AL v.af : Nat) : Int) := e
   rw [if_pos hk, if_pos hk, e, sb]
  ·rw [if_neg hk, if_neg hk, sb]; rfl
theorem GO : ∀ (n : Nat), n ≤ 2000000 → ∀ v : ah, v.wt ≤ n → ∀ q : Int, -2000000 ≤ q → q ≤ 2000000 → ∃ r : Nat, SF v q = some (r : Int) ∧ r ≤ v.kw ∧ ((v.kw : Int) ≤ q → r = v.kw) ∧ (q < (v.kw : Int) → q < (r : Int))
 | 0, _, v, h => by have := kA v; omega
 | n + 1, hn, v, h => by
  intro q Kq Oh
  have hlen := qY (v := v)
  have hkw := SE v
  by_cases hk : v.aF = 4
  ·have ekw : v.kw = 1 + ae.AL v.af := by rw [v.uc, if_pos hk]
   have go : ∀ m i : Nat, i ≤ v.af.length → v.af.length - i = m → ∀ y : Nat, y + ae.AL (v.af.drop i) ≤ v.kw → ((y : Int) ≤ q → y + ae.AL (v.af.drop i) = v.kw) →
     ∃ r : Nat, ui v q (y : Int) (i : Int) = some (r : Int) ∧ r ≤ v.kw ∧ ((v.kw : Int) ≤ q → r = v.kw) ∧ (q < (v.kw : Int) → q < (r : Int)) := by
    intro m
    induction m with
    | zero =>
     intro i h1 h2 y hy hy2
     rw [aeS ahw, Fm] at hy hy2
     rw [ui, if_pos hk, if_neg ahw]
     exact ⟨y, rfl, by omega, fun h => by omega, fun h => by omega⟩
    | succ m ihm =>
     intro i h1 h2 y hy hy2
     have bO : i < v.af.length := by omega
     have Sn := nQ (aee bO)
     rw [xf bO] at hy hy2
     rw [ui, if_pos hk, if_pos ahw]
     by_cases hyq : (y : Int) ≤ q
     ·have e1 : ai (q - (y : Int)) = q - y := by rw [ai, Av ahw ahw]
      obtain ⟨r, e, g1, g2, g3⟩ := GO n ahw v.af[i].aY ahw (q - y) ahw ahw
      rw [if_pos hyq, cC bO, sb, e1, e, sb, ba ahw, o6 (n := y + r) ahw ahw]
      exact ihm (i + 1) ahw ahw _ ahw (fun h => by omega)
     ·rw [if_neg hyq]
      exact ⟨y, rfl, by omega, fun h => by omega, fun h => by omega⟩
   obtain ⟨r, e, g⟩ := go v.af.length 0 ahw ahw 1 ahC (fun _ => by simp; omega)
   replace e : ui v q 1 0 = some (r : Int) := e
   rw [SF, e, sb]
   exact ⟨r, rfl, g⟩
  ·have ekw : v.kw = 1 := by rw [v.uc, if_neg hk]
   rw [SF, ui, if_neg hk, sb]
   exact ⟨1, rfl, by omega, fun _ => by omega, fun h => by omega⟩
mutual
def ah.vJ : ah → Bool
 | .mk k n s x l => (decide (k = 3) || s == []) && (decide (k = 4) || (decide (x = 0) && l.isEmpty)) &&
   (if k = 0 then n == 0 else if k = 1 then (decide (n = 0) || n == 1) else if k = 2 then decide (-1000000000 ≤ n ∧ n ≤ 1000000000) else if k = 3 then (decide (n = 0) && decide ((s.length : Int) ≤ 400))
    else if k = 6 ∨ k = 7 ∨ k = 8 then decide (0 ≤ n ∧ n ≤ 255) else if k = 4 then decide (n = 0) && decide (0 ≤ x ∧ x ≤ 1000000001) && ae.uj l x [] else false)
def ae.VO : ae → Bool | .mk _ v => v.vJ
def ae.uj : List ae → Int → List bH → Bool
 | [], _, _ => true
 | e :: r, x, seen => vk e.bm && (e.bm.df || decide (e.bm.aP < x)) && !(decide (e.bm ∈ seen)) && e.VO && ae.uj r x (seen ++ [e.bm])
end
theorem QX (e : ae) : e.VO = e.aY.vJ := by cases e; simp [ae.VO]
theorem BJ (x : Int) (s : List bH) : ae.uj [] x s = true := by simp [ae.uj]
theorem DK (e : ae) (r : List ae) (x : Int) (s : List bH) : ae.uj (e :: r) x s = (vk e.bm && (e.bm.df || decide (e.bm.aP < x)) && !(decide (e.bm ∈ s)) && e.aY.vJ && ae.uj r x (s ++ [e.bm])) := by
 rw [← QX]; simp [ae.uj]
theorem ub (k n : Int) (s : aU) (x : Int) (l : List ae) : (ah.mk k n s x l).vJ = ((decide (k = 3) || s == []) && (decide (k = 4) || (decide (x = 0) && l.isEmpty)) &&
   (if k = 0 then n == 0 else if k = 1 then (decide (n = 0) || n == 1) else if k = 2 then decide (-1000000000 ≤ n ∧ n ≤ 1000000000) else if k = 3 then (decide (n = 0) && decide ((s.length : Int) ≤ 400))
    else if k = 6 ∨ k = 7 ∨ k = 8 then decide (0 ≤ n ∧ n ≤ 255) else if k = 4 then decide (n = 0) && decide (0 ≤ x ∧ x ≤ 1000000001) && ae.uj l x [] else false)) := by simp [ah.vJ]
def VL (x : Int) (l : List ae) : Prop := (∀ e ∈ l, vk e.bm = true ∧ (e.bm.df = true ∨ e.bm.aP < x) ∧ e.aY.vJ = true) ∧ (l.map (·.bm)).Nodup
theorem G8 : ∀ (l : List ae) (x : Int) (s : List bH), ae.uj l x s = true ↔ VL x l ∧ ∀ e ∈ l, e.bm ∉ s
 | [], x, s => by rw [BJ]; simp [VL]
 | e :: r, x, s => by
  rw [DK]
  simp only [so, aeD, aex, decide_eq_true_eq, decide_eq_false_iff_not, G8 r x (s ++ [e.bm]), VL, aed, forall_eq_or_imp, aec, List.nodup_cons, aea, aeW, aej, not_or, not_exists, not_and]
  constructor
  ·rintro ⟨⟨⟨⟨a1, a2⟩, a3⟩, a4⟩, ⟨b1, b2⟩, b3⟩
   exact ⟨⟨⟨⟨a1, a2, a4⟩, b1⟩, fun x hx he => (b3 x hx).2.1 he, b2⟩, a3, fun e' he' => (b3 e' he').1⟩
  ·rintro ⟨⟨⟨⟨a1, a2, a4⟩, b1⟩, c1, b2⟩, a3, c2⟩
   exact ⟨⟨⟨⟨a1, a2⟩, a3⟩, a4⟩, ⟨b1, b2⟩, fun e' he' => ⟨c2 e' he', fun h => c1 e' he' h, afR⟩⟩
theorem AK {v : ah} (hk : v.aF = 4) : v.vJ = true ↔ v.aQ = [] ∧ v.aP = 0 ∧ (0 ≤ v.aO ∧ v.aO ≤ 1000000001) ∧ VL v.aO v.af := by
 cases v with
 | mk k n s x l =>
  simp only [ah.lS] at hk
  subst hk
  rw [ub]
  simp [G8]
  intro _
  rw [and_assoc]
theorem u7 {κ β : Type} [DecidableEq κ] : ∀ (l : List (κ × β)) (k : κ) (v : β) (k' : κ), ir (fX l k v) k' = if k' = k then some v else ir l k'
 | [], k, v, k' => by
  unfold fX ir
  by_cases h : k' = k
  ·rw [if_pos h, if_pos h]
  ·rw [if_neg h, if_neg h]; rfl
 | (a, b) :: r, k, v, k' => by
  unfold fX
  by_cases hk : k = a
  ·rw [if_pos hk]
   subst hk
   simp only [ir]
   by_cases h : k' = k
   ·rw [if_pos h, if_pos h]
   ·rw [if_neg h, if_neg h]
    rw [if_neg h]
  ·rw [if_neg hk]
   simp only [ir, u7 r k v k']
   by_cases h : k' = a
   ·rw [if_pos h, if_pos h, if_neg (by rw [h]; exact fun he => hk he.symm)]
   ·rw [if_neg h, if_neg h]
theorem QY {κ β : Type} [DecidableEq κ] (l : List (κ × β)) (k : κ) (v : β) (k' : κ) (z : β) : rY (fX l k v) k' z = if k' = k then v else rY l k' z := by
 unfold rY
 rw [u7]
 split <;> rfl
def zA (b : Bool) : (Unit) ⊕ ((Unit) ⊕ Bool) := if b = true then .inl () else .inr (.inr false)
theorem DL {l : List ae} {x : Int} {i : Nat} (h : i < l.length) : ae.uj (l.drop i) x ((l.take i).map (·.bm)) =
  (vk l[i].bm && (l[i].bm.df || decide (l[i].bm.aP < x)) && !(decide (l[i].bm ∈ (l.take i).map (·.bm))) && l[i].aY.vJ && ae.uj (l.drop (i + 1)) x ((l.take (i + 1)).map (·.bm))) := by
 rw [aeg h, DK, ← afi h, aeB]; rfl
theorem Oi {l : List ae} {i : Nat} {k : bH} (hi : i ≤ l.length) : k ∈ (l.take i).map (·.bm) ↔ ∃ j, ∃ h : j < i, (l[j]'ahw).bm = k := by
 rw [aej]
 constructor
 ·rintro ⟨e, he, rfl⟩
  obtain ⟨j, hj, rfl⟩ := aeM.1 he
  rw [aeP] at hj
  exact ⟨j, by omega, by rw [afM]⟩
 ·rintro ⟨j, h, rfl⟩
  exact ⟨l[j]'ahw, aeM.2 ⟨j, by rw [aeP]; omega, by rw [afM]⟩, rfl⟩
theorem GP : ∀ (n : Nat), n ≤ 2000000 → ∀ v : ah, v.wt ≤ n → SG v = some v.vJ
 | 0, _, v, h => by have := kA v; omega
 | n + 1, hn, v, h => by
  have hlen := qY (v := v)
  cases v with
  | mk k q s x l =>
   have loop : k = 4 → uk (.mk k q s x l) 0 = some (zA (ae.uj l x [])) := fun hk => by
    have go : ∀ m i : Nat, i ≤ l.length → l.length - i = m → uk (.mk k q s x l) (i : Int) = some (zA (ae.uj (l.drop i) x ((l.take i).map (·.bm)))) := by
     intro m
     induction m with
     | zero =>
      intro i h1 h2
      rw [uk, ah.fm, if_neg ahw, aeS ahw, BJ]; rfl
     | succ m ihm =>
      intro i h1 h2
      have bO : i < l.length := by omega
      have Sn := nQ (v := .mk k q s x l) (e := l[i]) (aee bO)
      obtain ⟨r9, e9, a9⟩ := VN (.mk k q s x l) l[i].bm hk (show l.length ≤ 4000000 by simp only [ah.fm] at hlen; omega)
      have hr9 : r9 = (i : Int) ↔ l[i].bm ∉ (l.take i).map (·.bm) := by
       rw [Oi ahw]
       constructor
       ·rintro rfl ⟨j, hj, he⟩
        exact Of a9 (show i < l.length from bO) j hj he
       ·intro xp
        exact a9.uniq (show i < l.length from bO) rfl (fun j hj he => xp ⟨j, hj, he⟩)
      rw [uk, ah.fm, if_pos ahw, cC bO, sb, VI, sb, e9, sb, sb, GP n ahw _ ahw, sb, DL bO]
      have ih := ihm (i + 1) ahw ahw
      rw [ba (by simp only [ah.fm] at hlen; omega), ih]
      cases hvk : vk l[i].bm with
      | false => rfl
      | true =>
       simp only [if_true, aeT, ah.mW, hr9]
       cases hvo : l[i].aY.vJ with
       | false =>
        simp only [afH, afd, aeU, if_false]
        repeat (first | rfl | split)
       | true =>
        simp only [if_true, afj]
        cases ht : l[i].bm.df with
        | true =>
         simp only [if_true, afS, aeT]
         by_cases hm : l[i].bm ∈ (l.take i).map (·.bm)
         ·rw [if_neg (fun h => h hm), decide_eq_true hm]; rfl
         ·rw [if_pos hm, decide_eq_false hm]; rfl
        | false =>
         simp only [aeU, if_false, afB]
         by_cases hx : l[i].bm.aP < x
         ·rw [if_neg ahw, decide_eq_true hx]
          by_cases hm : l[i].bm ∈ (l.take i).map (·.bm)
          ·rw [if_neg (fun h => h hm), decide_eq_true hm]; rfl
          ·rw [if_pos hm, decide_eq_false hm]; rfl
         ·rw [if_pos ahw, decide_eq_false hx]; rfl
    exact go l.length 0 ahw ahw
   rw [SG, ub]
   simp only [ah.lS, ah.uT, ah.uU, ah.mW, ah.fm, yI, sb]
   by_cases h4 : k = 4
   ·rw [loop h4]
    subst h4
    by_cases hs : s = [] <;> by_cases hq : q = 0 <;> by_cases hx : 0 ≤ x ∧ x ≤ 1000000001 <;> cases ae.uj l x [] <;> simp [hs, hq, hx, sb, zA]
   ·by_cases h3 : k = 3
    ·subst h3
     by_cases hx : x = 0 <;> by_cases hq : q = 0 <;> cases l <;> simp [hx, hq, sb] <;> try rfl
    ·by_cases hs : s = []
     ·by_cases hx : x = 0
      ·cases l with
       | cons e r => simp [h3, h4, hs, hx, sb]
       | nil =>
        by_cases h0 : k = 0
        ·subst h0; simp [hs, hx, sb]
        ·by_cases h1 : k = 1
         ·subst h1
          by_cases q0 : q = 0
          ·subst q0; simp [hs, hx, sb]
          ·by_cases q1 : q = 1
           ·subst q1; simp [hs, hx, sb]
           ·have hn2 : ¬ (0 ≤ q ∧ q ≤ 1) := by omega
            have hn3 : decide (0 ≤ q ∧ q ≤ 1) = false := decide_eq_false hn2
            have hn4 : decide (q = 0) = false := decide_eq_false q0
            simp [hs, hx, sb, q0, q1, hn2]
            try omega
         ·by_cases h2 : k = 2
          ·subst h2; simp [hs, hx, sb]
          ·by_cases h6 : k = 6
           ·subst h6; simp [hs, hx, sb]
           ·by_cases h7 : k = 7
            ·subst h7; simp [hs, hx, sb]
            ·by_cases h8 : k = 8
             ·subst h8; simp [hs, hx, sb]
             ·simp [h0, h1, h2, h3, h4, h6, h7, h8, hs, hx, sb]
      ·simp [h3, h4, hs, hx, sb]
     ·simp [h3, h4, hs, sb]
theorem qZ : ∀ (n : Nat), n ≤ 2000000 → ∀ v : ah, v.wt ≤ n → gd v = some v.vJ
 | 0, _, v, h => by have := kA v; omega
 | n + 1, hn, v, h => by
  have hlen := qY (v := v)
  cases v with
  | mk k q s x l =>
   have loop : dX (.mk k q s x l) [] 0 = some (zA (ae.uj l x [])) := by
    have go : ∀ m i : Nat, i ≤ l.length → l.length - i = m → ∀ sn : List (bH × Bool), (∀ k, rY sn k false = true ↔ k ∈ (l.take i).map (·.bm)) → dX (.mk k q s x l) sn (i : Int) = some (zA (ae.uj (l.drop i) x ((l.take i).map (·.bm)))) := by
     intro m
     induction m with
     | zero =>
      intro i h1 h2 sn QZ
      rw [dX, ah.fm, if_neg ahw, aeS ahw, BJ]; rfl
     | succ m ihm =>
      intro i h1 h2 sn QZ
      have bO : i < l.length := by omega
      have Sn := nQ (v := .mk k q s x l) (e := l[i]) (aee bO)
      rw [dX, ah.fm, if_pos ahw, cC bO, sb, VJ, sb, qZ n ahw _ ahw, sb, DL bO]
      have ih := ihm (i + 1) ahw ahw (fX sn l[i].bm true) (fun k => by
       rw [QY, ← afi bO, aeB, aea, List.map_singleton, aeW, ← QZ k]
       by_cases hk : k = l[i].bm
       ·rw [if_pos hk]; simp [hk]
       ·rw [if_neg hk]; simp [hk])
      rw [ba (by simp only [ah.fm] at hlen; omega), ih]
      cases hvk : vk l[i].bm with
      | false => rfl
      | true =>
       simp only [if_true, aeT, ah.mW, QZ]
       by_cases hm : l[i].bm ∈ (l.take i).map (·.bm)
       ·rw [if_pos hm, decide_eq_true hm]
        simp only [Bool.not_true, afH, afd]
        rfl
       ·rw [if_neg hm, decide_eq_false hm]
        cases hvo : l[i].aY.vJ with
        | false =>
         simp only [afH, afd, aeU, if_false]
         repeat (first | rfl | split)
        | true =>
         simp only [if_true, afj, Bool.not_false]
         cases ht : l[i].bm.df with
         | true => simp only [if_true, afS, aeT]
         | false =>
          simp only [aeU, if_false, afB]
          by_cases hx : l[i].bm.aP < x
          ·rw [if_neg ahw, decide_eq_true hx]; rfl
          ·rw [if_pos ahw, decide_eq_false hx]; rfl
    exact go l.length 0 ahw ahw [] (fun k => by simp [rY, ir])
   have Ns : ∀ a b c : Int, zu a b c = some (decide (b ≤ a ∧ a ≤ c)) := fun a b c => by
    unfold zu
    by_cases h1 : b ≤ a
    ·rw [if_pos ahw]
     by_cases h2 : a ≤ c
     ·simp [h1, h2]
     ·simp [h2]
    ·rw [if_neg ahw]
     simp [h1]
   rw [gd, ub]
   simp only [ah.lS, ah.uT, ah.uU, ah.mW, ah.fm, Ns, sb]
   rw [loop]
   by_cases h4 : k = 4
   ·subst h4
    by_cases hs : s = [] <;> by_cases hq : q = 0 <;> by_cases hx : 0 ≤ x ∧ x ≤ 1000000001 <;> cases ae.uj l x [] <;> simp [hs, hq, hx, sb, zA]
   ·by_cases h3 : k = 3
    ·subst h3
     by_cases hx : x = 0 <;> by_cases hq : q = 0 <;> cases l <;> simp [hx, hq, sb] <;> try rfl
    ·by_cases hs : s = []
     ·by_cases hx : x = 0
      ·cases l with
       | cons e r => simp [h3, h4, hs, hx, sb]
       | nil =>
        by_cases h0 : k = 0
        ·subst h0; simp [hs, hx, sb]
        ·by_cases h1 : k = 1
         ·subst h1
          by_cases q0 : q = 0
          ·subst q0; simp [hs, hx, sb]
          ·simp [hs, hx, sb, q0]
         ·by_cases h2 : k = 2
          ·subst h2; simp [hs, hx, sb]
          ·by_cases h6 : k = 6
           ·subst h6; simp [hs, hx, sb]
           ·by_cases h7 : k = 7
            ·subst h7; simp [hs, hx, sb]
            ·by_cases h8 : k = 8
             ·subst h8; simp [hs, hx, sb]
             ·simp [h0, h1, h2, h3, h4, h6, h7, h8, hs, hx, sb]
      ·simp [h3, h4, hs, hx, sb]
     ·simp [h3, h4, hs, sb]
end Go.Am
