/- Texts of the proof, joined and shortened. -/
import Derived.Test.YtalfppmpmnlnlaaGreatDoorPk7
set_option linter.unusedVariables false
set_option linter.unusedSimpArgs false
set_option synthInstance.maxHeartbeats 400000
set_option synthInstance.maxSize 4000
set_option maxRecDepth 100000
set_option maxHeartbeats 2000000
namespace Go.Am
open Go Go.RowKit Go.Proofs
def dD (a0 : List UInt8) (a1 : Int) (y4 : Int) (y5 : Int) : Option ((Unit) ⊕ (Int × Int × Bool)) :=
 (if y5 < 6 then
 (if a1 < 0 then
 some (.inr (0, 0, false))
 else
 (if a1 ≥ (ai ((a0.length : Int) - y5)) then
 some (.inr (0, 0, false))
 else
 idx a0 (ai (a1 + y5)) >>= fun ME =>
 must (0 ≤ (ai (7 * y5))) >>= fun _ =>
 (if (ai ((ME.toNat : Int))) < 128 then
 (if (ai ((ME.toNat : Int))) = 0 then
 (if y5 > 0 then
 some (.inr (0, 0, false))
 else
 (if (bits .or .i64 y4 (ai ((bits .and .i64 (ai ((ME.toNat : Int))) 127) * 2 ^ min (ai (7 * y5)).toNat IntKind.i64.bits))) > 1000000000000 then
 some (.inr (0, 0, false))
 else
 some (.inr (bits .or .i64 y4 (ai ((bits .and .i64 (ai ((ME.toNat : Int))) 127) * 2 ^ min (ai (7 * y5)).toNat IntKind.i64.bits)), ai ((ai (a1 + y5)) + 1), true))))
 else
 (if (bits .or .i64 y4 (ai ((bits .and .i64 (ai ((ME.toNat : Int))) 127) * 2 ^ min (ai (7 * y5)).toNat IntKind.i64.bits))) > 1000000000000 then
 some (.inr (0, 0, false))
 else
 some (.inr (bits .or .i64 y4 (ai ((bits .and .i64 (ai ((ME.toNat : Int))) 127) * 2 ^ min (ai (7 * y5)).toNat IntKind.i64.bits)), ai ((ai (a1 + y5)) + 1), true))))
 else
 dD a0 a1 (bits .or .i64 y4 (ai ((bits .and .i64 (ai ((ME.toNat : Int))) 127) * 2 ^ min (ai (7 * y5)).toNat IntKind.i64.bits))) (ai (y5 + 1)))))
 else
 some (.inl ()))
partial_fixpoint
def eu (a0 : List UInt8) (a1 : Int) : Option (Int × Int × Bool) :=
 ((
 dD a0 a1 0 0
 : Option ((Unit) ⊕ (Int × Int × Bool))) >>= fun o1 => match o1 with
 | .inr r => some r
 | .inl _ =>
 some (0, 0, false)
 )
theorem rE {a0 : List UInt8} {a1 : Int} {r : Int × Int × Bool} (h : eu a0 a1 = some r) : ACall Tryz.prog 71 [sl 1 cB a0, .int .i64 a1] [] (fun res h => res = .fu [.int .i64 r.1, .int .i64 r.2.1, .bool r.2.2] ∧ h = []) := by
 refine dx Tryz.func71 ?_
 unfold eu at h
 refine .d (.d ?_)
 obtain ⟨o1, yz, mE⟩ := bd h
 replace h := yz
 refine .cut (fun σ η => .inl () = o1 ∧ σ = [] ∧ η = []) ?_ ?_
 refine .d ?_
 refine le (dD.partial_correctness a0 a1 (motive := fun y4 y5 MH => o1 = MH → aB _ _ [(0, sl 1 cB a0), (1, .int .i64 a1), (7, .int .i64 y4), (8, .int .i64 y5)] []) ?_ 0 0 o1 h rfl) (tk [] ⟨.l, .i, .i, .i, ⟨⟩⟩ ⟨⟩)
 intro F7 zo y4 y5 MH h TL
 subst TL
 refine aB.round (.d (.d (sD h (fun mI h => ?_) (fun mI h => ?_))))
 refine .d (.d (.d (sD h (fun qu h => ?_) (fun qu h => ?_))))
 refine .t (.t (.t (.t (.t (.t (.t (.d ?_)))))))
 exact agK
 refine .f (.f (.f (.f (.f (.f (sD h (fun iy h => ?_) (fun iy h => ?_)))))))
 refine .d ?_
 exact agK
 refine .d (bk h fun ME iB h => ⟨aK iB, _, (aD iB).trans rfl, (.d ?_)⟩)
 obtain ⟨_, abR, h⟩ := bd h
 refine ⟨DH abR, (.d (sD h (fun jd h => ?_) (fun jd h => ?_)))⟩
 refine .d (.d (sE h (fun eE h => ?_) (fun eE h => ?_)))
 refine .t (.t (sD h (fun kz h => ?_) (fun kz h => ?_)))
 refine .t (.t (.t (.d ?_)))
 exact agK
 refine .f (.f (sD h (fun jO h => ?_) (fun jO h => ?_)))
 refine .d ?_
 exact agK
 refine .d ?_
 exact agK
 refine .f (.f (.f (.f (.f (sD h (fun lG h => ?_) (fun lG h => ?_))))))
 refine .d ?_
 exact agK
 refine .d ?_
 exact agK
 exact lg (zo _ _ _ h rfl) (tk [] ⟨.l, .i, .i, .i, ⟨⟩⟩ ⟨⟩)
 exact agQ
 rintro _ _ ⟨rfl, rfl, rfl⟩
 replace h := mE
 refine .d ?_
 exact agG
def iV (a0 : List UInt8) (a1 : Int) (a2 : Int) : Option (aU × Int × Bool) :=
 eu a0 a1 >>= fun (v1, v2, v3) =>
 (if v3 = true then
 (if v1 > a2 then
 some ([], 0, false)
 else
 (if v1 > (ai ((a0.length : Int) - v2)) then
 some ([], 0, false)
 else
 IU a0 v2 (ai (v2 + v1)) >>= fun l8 =>
 some (l8, ai (v2 + v1), true)))
 else
 some ([], 0, false))
theorem C9 {a0 : List UInt8} {a1 : Int} {a2 : Int} {r : aU × Int × Bool} (h : iV a0 a1 a2 = some r) : ACall Tryz.prog 122 [sl 1 cB a0, .int .i64 a1, .int .i64 a2] [] (fun res h => res = .fu [.str r.1, .int .i64 r.2.1, .bool r.2.2] ∧ h = []) := by
 refine dx Tryz.func122 ?_
 unfold iV at h
 refine .d (.d ?_)
 obtain ⟨⟨v1, v2, v3⟩, A6, h⟩ := bd h
 refine bJ (rE A6) (.d (.d (hB h (fun lY h => ?_) (fun lY h => ?_))))
 refine .t (.t (.t (.t (.t (.t (.t (.t (.t (.t (.t (.d ?_)))))))))))
 exact agy
 refine .f (.f (.f (sD h (fun mJ h => ?_) (fun mJ h => ?_))))
 refine .t (.t (.t (.t (.t (.t (.t (.d ?_)))))))
 exact agy
 refine .f (.f (.f (.f (.f (.f (sD h (fun nr h => ?_) (fun nr h => ?_)))))))
 refine .d ?_
 exact agy
 refine .d (bk h fun l8 Ar h => ⟨trivial, AS Ar, l8.length, row cB l8, By Ar, GW Ar, ⟨l8, rfl, fun _ hi => uY hi, ?_⟩⟩)
 exact agy
def bV (a0 : dc) : Option (Int × dc) :=
 eu a0.fB a0.dy >>= fun (v1, v2, v3) =>
 (if v3 = true then
 some (v1, (dc.mk a0.fB v2))
 else
 some (0, (dc.mk a0.fB (-1))))
theorem dh {a0 : dc} {r : Int × dc} {g1000 : Nat} (h : bV a0 = some r) : ACall Tryz.prog 33 [.aG 0 g1000 0 0] [.row g1000 2 1 75 (fun _ => a0.lit)] (fun res h => res = .int .i64 r.1 ∧ h = [.row g1000 2 1 75 (fun _ => r.2.lit)]) := by
 refine dx Tryz.func33 ?_
 unfold bV at h
 refine .d (.d (.float [(0, true), (1, true), (2, true), (3, true), (4, true), (5, true), (6, true), (7, true), (8, false), (9, true), (10, true), (11, true), (12, true), (13, true), (14, true), (15, true)] ahA ?_))
 refine ⟨rfl, ⟨rfl, ⟨rfl, _, rfl, ⟨rfl, ⟨rfl, ⟨rfl, _, rfl, ?_⟩⟩⟩⟩⟩⟩
 obtain ⟨⟨v1, v2, v3⟩, A6, h⟩ := bd h
 refine bJ (rE A6) (.d (.d (hB h (fun lY h => ?_) (fun lY h => ?_))))
 refine .d ⟨rfl, ⟨rfl, ⟨rfl, _, fun _ => [sl 1 cB a0.fB, .int .i64 (-1)], rfl, ar rfl, (.d ?_)⟩⟩⟩
 obtain rfl := si h
 exact en [0] ⟨rfl, rfl⟩ .i ⟨(ob rfl ⟨.l, .i, ⟨⟩⟩), ⟨⟩⟩
 refine .d ⟨rfl, ⟨rfl, ⟨rfl, _, fun _ => [sl 1 cB a0.fB, .int .i64 v2], rfl, ar rfl, (.d ?_)⟩⟩⟩
 obtain rfl := si h
 exact en [0] ⟨rfl, rfl⟩ .i ⟨(ob rfl ⟨.l, .i, ⟨⟩⟩), ⟨⟩⟩
def bI (a0 : dc) : Option (aU × dc) :=
 iV a0.fB a0.dy (a0.fB.length : Int) >>= fun (v1, v2, v3) =>
 (if v3 = true then
 some (v1, (dc.mk a0.fB v2))
 else
 some ([], (dc.mk a0.fB (-1))))
theorem b8 {a0 : dc} {r : aU × dc} {g1000 : Nat} (h : bI a0 = some r) : ACall Tryz.prog 72 [.aG 0 g1000 0 0] [.row g1000 2 1 75 (fun _ => a0.lit)] (fun res h => res = .str r.1 ∧ h = [.row g1000 2 1 75 (fun _ => r.2.lit)]) := by
 refine dx Tryz.func72 ?_
 unfold bI at h
 refine .d (.d (.float [(0, true), (1, true), (2, true), (3, true), (4, true), (5, true), (6, true), (7, true), (8, true), (9, true), (10, true), (11, true), (12, true), (13, false), (14, true), (15, true), (16, true), (17, true), (18, true), (19, true), (20, true)] ahA ?_))
 refine ⟨rfl, ⟨rfl, ⟨rfl, _, rfl, ⟨rfl, ⟨rfl, ⟨rfl, _, rfl, ⟨rfl, ⟨rfl, ⟨rfl, _, rfl, ?_⟩⟩⟩⟩⟩⟩⟩⟩⟩
 obtain ⟨⟨v1, v2, v3⟩, A6, h⟩ := bd h
 refine bJ (C9 A6) (.d (.d (hB h (fun lY h => ?_) (fun lY h => ?_))))
 refine .d ⟨rfl, ⟨rfl, ⟨rfl, _, fun _ => [sl 1 cB a0.fB, .int .i64 (-1)], rfl, ar rfl, (.d ?_)⟩⟩⟩
 obtain rfl := si h
 exact en [0] ⟨rfl, rfl⟩ .s ⟨(ob rfl ⟨.l, .i, ⟨⟩⟩), ⟨⟩⟩
 refine .d ⟨rfl, ⟨rfl, ⟨rfl, _, fun _ => [sl 1 cB a0.fB, .int .i64 v2], rfl, ar rfl, (.d ?_)⟩⟩⟩
 obtain rfl := si h
 exact en [0] ⟨rfl, rfl⟩ .s ⟨(ob rfl ⟨.l, .i, ⟨⟩⟩), ⟨⟩⟩
def ez (a0 : dc) : Option (Bool × dc) :=
 bV a0 >>= fun (v1, v2) =>
 (if v1 > 1 then
 some ((v1 == 1), (dc.mk v2.fB (-1)))
 else
 some ((v1 == 1), v2))
theorem jF {a0 : dc} {r : Bool × dc} {g1000 : Nat} (h : ez a0 = some r) : ACall Tryz.prog 74 [.aG 0 g1000 0 0] [.row g1000 2 1 75 (fun _ => a0.lit)] (fun res h => res = .bool r.1 ∧ h = [.row g1000 2 1 75 (fun _ => r.2.lit)]) := by
 refine dx Tryz.func74 ?_
 unfold ez at h
 refine .d (.d ?_)
 obtain ⟨⟨v1, v2⟩, qs, h⟩ := bd h
 refine ko (dh (g1000 := g1000) qs) [0] ⟨rfl, ⟨⟩⟩ (.int .i64 v1) [.row g1000 2 1 75 (fun _ => v2.lit)] (.d (.d (sD h (fun oN h => ?_) (fun oN h => ?_))))
 refine ⟨rfl, ⟨rfl, ⟨rfl, _, fun _ => [sl 1 cB v2.fB, .int .i64 (-1)], rfl, ar rfl, (.d ?_)⟩⟩⟩
 obtain rfl := si h
 exact en [0] ⟨rfl, rfl⟩ .b ⟨(ob rfl ⟨.l, .i, ⟨⟩⟩), ⟨⟩⟩
 refine .d ?_
 obtain rfl := si h
 exact en [0] ⟨rfl, rfl⟩ .b ⟨(ob rfl ⟨.l, .i, ⟨⟩⟩), ⟨⟩⟩
def dE (l10 : List UInt8) (aW : Int) (mw : List TParam) (NR : Int) : Option ((List UInt8) × Int × (List TParam)) :=
 (if NR > 0 then
 (if aW ≥ 0 then
 bI (dc.mk l10 aW) >>= fun (ly, zt) =>
 ez zt >>= fun (v21, oO) =>
 im 24 mw ([(TParam.mk ly v21)] : List TParam) >>= fun E0 =>
 dE oO.fB oO.dy E0 (ai (NR - 1))
 else
 some (l10, aW, mw))
 else
 some (l10, aW, mw))
partial_fixpoint
def gx (a0 : dc) : Option ((List TParam) × dc) :=
 (
 bV a0 >>= fun (v7, v8) =>
 dE v8.fB v8.dy ([] : List TParam) v7
 : Option ((List UInt8) × Int × (List TParam))) >>= fun (l1, y2, l3) =>
 some (l3, (dc.mk l1 y2))
theorem pP {a0 : dc} {r : (List TParam) × dc} {g1000 : Nat} (h : gx a0 = some r) : ACall Tryz.prog 73 [.aG 0 g1000 0 0] [.row g1000 2 1 75 (fun _ => a0.lit)] (fun res h => res = sl 2 TParam.cells r.1 ∧ h = [.row g1000 2 1 75 (fun _ => r.2.lit)]) := by
 refine dx Tryz.func73 ?_
 unfold gx at h
 refine .d (.d ⟨row TParam.cells ([] : List TParam), de TParam.cells ([] : List TParam) rfl (cD rfl), ?_⟩)
 obtain ⟨o4, QN, NS⟩ := bd h
 replace h := QN
 refine .cut (fun σ η => ∃ l1, ∃ y2, ∃ l3, (l1, y2, l3) = o4 ∧ σ = [(3, .own 1 0 0 l3.length)] ∧ η = [.row g1000 2 1 75 (fun _ => [sl 1 cB l1, .int .i64 y2]), .row 0 2 l3.length 61 (row TParam.cells l3)]) ?_ ?_
 refine .d ?_
 obtain ⟨⟨v7, v8⟩, KW, h⟩ := bd h
 refine ko (dh (g1000 := g1000) KW) [0] ⟨rfl, ⟨⟩⟩ (.int .i64 v7) [.row g1000 2 1 75 (fun _ => v8.lit), .row 0 2 ([] : List TParam).length 61 (row TParam.cells ([] : List TParam))] ?_
 refine le (dE.partial_correctness  (motive := fun l10 aW mw NR XN => o4 = XN → aB _ _ [(0, .aG 0 g1000 0 0), (3, .own 1 0 0 mw.length), (4, .int .i64 NR)] [.row g1000 2 1 75 (fun _ => [sl 1 cB l10, .int .i64 aW]), .row 0 2 mw.length 61 (row TParam.cells mw)]) ?_ v8.fB v8.dy ([] : List TParam) v7 o4 h rfl) (tk [0, 1] ⟨.p, .o, .i, ⟨⟩⟩ ⟨(nA rfl), nw, ⟨⟩⟩)
 intro F15 U0 l10 aW mw NR XN h TD
 subst TD
 refine aB.round (.d (.d (sD h (fun kz h => ?_) (fun kz h => ?_))))
 refine .t ⟨rfl, (.t ⟨rfl, (.t ⟨rfl, _, rfl, (.t (.t (sD h (fun jO h => ?_) (fun jO h => ?_))))⟩)⟩)⟩
 refine .d (.d ?_)
 obtain ⟨⟨ly, zt⟩, EF, h⟩ := bd h
 refine ko (b8 (g1000 := g1000) EF) [0] ⟨rfl, ⟨⟩⟩ (.str ly) [.row g1000 2 1 75 (fun _ => zt.lit), .row 0 2 mw.length 61 (row TParam.cells mw)] ?_
 obtain ⟨⟨v21, oO⟩, yp, h⟩ := bd h
 exact ko (jF (g1000 := g1000) yp) [0] ⟨rfl, ⟨⟩⟩ (.bool v21) [.row g1000 2 1 75 (fun _ => oO.lit), .row 0 2 mw.length 61 (row TParam.cells mw)] ⟨row TParam.cells ([(TParam.mk ly v21)] : List TParam), de TParam.cells ([(TParam.mk ly v21)] : List TParam) rfl (cD rfl), (bk h fun E0 EC h => ⟨rfl, rfl, lI (l := ([(TParam.mk ly v21)] : List TParam)) aS, eL EC, E0.length, row TParam.cells E0, dq EC, dB EC aS (jr aS), (lg (U0 _ _ _ _ _ h rfl) (tk [0, 1] ⟨.p, .o, .i, ⟨⟩⟩ ⟨(nA rfl), nw, ⟨⟩⟩))⟩)⟩
 exact ct ⟨_, _, _, si h, rfl, rfl⟩ (tk [0, 1] ⟨.o, ⟨⟩⟩ ⟨(nA rfl), nw, ⟨⟩⟩)
 exact .f (.f (.f (.f (.f (.f (ct ⟨_, _, _, si h, rfl, rfl⟩ (tk [0, 1] ⟨.o, ⟨⟩⟩ ⟨(nA rfl), nw, ⟨⟩⟩)))))))
 rintro _ _ ⟨l1, y2, l3, rfl, rfl, rfl⟩
 replace h := NS
 refine .d ?_
 obtain rfl := si h
 exact en [0] ⟨rfl, rfl⟩ .r ⟨(ob rfl ⟨.l, .i, ⟨⟩⟩), ⟨⟩⟩
def eF (Mg : List UInt8) (U1 : Int) (GX : List aU) (Yw : Int) : Option ((List UInt8) × Int × (List aU)) :=
 (if Yw > 0 then
 (if U1 ≥ 0 then
 bI (dc.mk Mg U1) >>= fun (lz, v28) =>
 im 16 GX ([lz] : List aU) >>= fun qh =>
 eF v28.fB v28.dy qh (ai (Yw - 1))
 else
 some (Mg, U1, GX))
 else
 some (Mg, U1, GX))
partial_fixpoint
def eG (Mk : List UInt8) (Lm : Int) (vL : List aL) (Yx : Int) : Option ((List UInt8) × Int × (List aL)) :=
 (if Yx > 0 then
 (if Lm ≥ 0 then
 bV (dc.mk Mk Lm) >>= fun (vH, H0) =>
 bV H0 >>= fun (rF, Qa) =>
 bV Qa >>= fun (Bk, yg) =>
 bI yg >>= fun (mF, vI) =>
 bI vI >>= fun (su, J8) =>
 im 56 vL ([(aL.mk vH rF Bk mF su)] : List aL) >>= fun zI =>
 eG J8.fB J8.dy zI (ai (Yx - 1))
 else
 some (Mk, Lm, vL))
 else
 some (Mk, Lm, vL))
partial_fixpoint
def kg (a0 : dc) : Option (aC × dc) :=
 bI a0 >>= fun (v1, v2) =>
 gx v2 >>= fun (v4, v5) =>
 gx v5 >>= fun (v7, v8) =>
 (
 bV v8 >>= fun (du, rX) =>
 eF rX.fB rX.dy ([] : List aU) du
 : Option ((List UInt8) × Int × (List aU))) >>= fun (l10, aW, mw) =>
 ez (dc.mk l10 aW) >>= fun (yJ, oz) =>
 (
 bV oz >>= fun (mT, Qb) =>
 eG Qb.fB Qb.dy ([] : List aL) mT
 : Option ((List UInt8) × Int × (List aL))) >>= fun (Yy, Yz, K8) =>
 some ((aC.mk v1 v4 v7 mw yJ K8), (dc.mk Yy Yz))
theorem yK {a0 : dc} {r : aC × dc} {g1000 : Nat} (h : kg a0 = some r) : ACall Tryz.prog 34 [.aG 0 g1000 0 0] [.row g1000 2 1 75 (fun _ => a0.lit)] (fun res h => res = .agg r.1.lit ∧ h = [.row g1000 2 1 75 (fun _ => r.2.lit)]) := by
 refine dx Tryz.func34 ?_
 unfold kg at h
 refine .d (.d ?_)
 obtain ⟨⟨v1, v2⟩, qs, h⟩ := bd h
 refine ko (b8 (g1000 := g1000) qs) [0] ⟨rfl, ⟨⟩⟩ (.str v1) [.row g1000 2 1 75 (fun _ => v2.lit), .row 0 6 1 57 (fun _ => [.str [], .aq, .aq, .aq, .bool false, .aq])] ⟨rfl, _, fun _ => [.str v1, .aq, .aq, .aq, .bool false, .aq], rfl, ar rfl, (.d ?_)⟩
 obtain ⟨⟨v4, v5⟩, Ac, h⟩ := bd h
 refine ko (pP (g1000 := g1000) Ac) [0] ⟨rfl, ⟨⟩⟩ (sl 2 TParam.cells v4) [.row g1000 2 1 75 (fun _ => v5.lit), .row 0 6 1 57 (fun _ => [.str [], .aq, .aq, .aq, .bool false, .aq]), .row 0 6 1 57 (fun _ => [.str v1, .aq, .aq, .aq, .bool false, .aq])] ⟨rfl, ⟨rfl, _, fun _ => [.str v1, sl 2 TParam.cells v4, .aq, .aq, .bool false, .aq], rfl, ar rfl, (.d ?_)⟩⟩
 obtain ⟨⟨v7, v8⟩, KW, h⟩ := bd h
 refine ko (pP (g1000 := g1000) KW) [0] ⟨rfl, ⟨⟩⟩ (sl 2 TParam.cells v7) [.row g1000 2 1 75 (fun _ => v8.lit), .row 0 6 1 57 (fun _ => [.str [], .aq, .aq, .aq, .bool false, .aq]), .row 0 6 1 57 (fun _ => [.str v1, sl 2 TParam.cells v4, .aq, .aq, .bool false, .aq])] ⟨rfl, ⟨rfl, _, fun _ => [.str v1, sl 2 TParam.cells v4, sl 2 TParam.cells v7, .aq, .bool false, .aq], rfl, ar rfl, ?_⟩⟩
 obtain ⟨Qr, abS, abT⟩ := bd h
 replace h := abS
 refine .cut (fun σ η => ∃ l10, ∃ aW, ∃ mw, (l10, aW, mw) = Qr ∧ σ = [(0, .aG 0 g1000 0 0), (2, .aG 1 0 0 0), (3, .aG 2 0 0 0)] ∧ η = [.row g1000 2 1 75 (fun _ => [sl 1 cB l10, .int .i64 aW]), .row 0 6 1 57 (fun _ => [.str [], .aq, .aq, .aq, .bool false, .aq]), .row 0 6 1 57 (fun _ => [.str v1, sl 2 TParam.cells v4, sl 2 TParam.cells v7, .own 3 0 0 mw.length, .bool false, .aq]), .row 0 1 mw.length 9 (row cS mw)]) ?_ ?_
 refine .d ?_
 obtain ⟨⟨du, rX⟩, yv, h⟩ := bd h
 refine ko (dh (g1000 := g1000) yv) [0] ⟨rfl, ⟨⟩⟩ (.int .i64 du) [.row g1000 2 1 75 (fun _ => rX.lit), .row 0 6 1 57 (fun _ => [.str [], .aq, .aq, .aq, .bool false, .aq]), .row 0 6 1 57 (fun _ => [.str v1, sl 2 TParam.cells v4, sl 2 TParam.cells v7, .aq, .bool false, .aq])] ?_
 refine le (eF.partial_correctness  (motive := fun Mg U1 GX Yw o32 => Qr = o32 → aB _ _ [(0, .aG 0 g1000 0 0), (2, .aG 1 0 0 0), (3, .aG 2 0 0 0), (4, .int .i64 Yw)] [.row g1000 2 1 75 (fun _ => [sl 1 cB Mg, .int .i64 U1]), .row 0 6 1 57 (fun _ => [.str [], .aq, .aq, .aq, .bool false, .aq]), .row 0 6 1 57 (fun _ => [.str v1, sl 2 TParam.cells v4, sl 2 TParam.cells v7, .own 3 0 0 GX.length, .bool false, .aq]), .row 0 1 GX.length 9 (row cS GX)]) ?_ rX.fB rX.dy ([] : List aU) du Qr h rfl) (tk [0, 1, 2, 6] ⟨.p, .p, .p, .i, ⟨⟩⟩ ⟨(nA rfl), (nb rfl ⟨.s, .aq, .aq, .aq, .b, .aq, ⟨⟩⟩), (nb rfl ⟨.s, .l, .l, .g, .b, .aq, ⟨⟩⟩), gh, ⟨⟩⟩)
 intro F24 abU Mg U1 GX Yw o32 h abV
 subst abV
 refine aB.round (.d (.d (sD h (fun ny h => ?_) (fun ny h => ?_))))
 refine .t ⟨rfl, (.t ⟨rfl, (.t ⟨rfl, _, rfl, (.t (.t (sD h (fun qg h => ?_) (fun qg h => ?_))))⟩)⟩)⟩
 refine .d (.float [(0, true), (1, true), (2, true), (3, false), (4, false), (5, false), (6, true), (7, false)] ahA ?_)
 refine ⟨rfl, ⟨rfl, _, rfl, ?_⟩⟩
 obtain ⟨⟨lz, v28⟩, yq, h⟩ := bd h
 exact ko (b8 (g1000 := g1000) yq) [0] ⟨rfl, ⟨⟩⟩ (.str lz) [.row g1000 2 1 75 (fun _ => v28.lit), .row 0 6 1 57 (fun _ => [.str [], .aq, .aq, .aq, .bool false, .aq]), .row 0 6 1 57 (fun _ => [.str v1, sl 2 TParam.cells v4, sl 2 TParam.cells v7, .own 3 0 0 GX.length, .bool false, .aq]), .row 0 1 GX.length 9 (row cS GX)] ⟨rfl, ⟨rfl, ⟨row cS ([lz] : List aU), de cS ([lz] : List aU) rfl (cD rfl), ⟨rfl, ⟨rfl, (bk h fun qh EJ h => ⟨rfl, rfl, lI (l := ([lz] : List aU)) aS, eL EJ, qh.length, row cS qh, dq EJ, dB EJ aS (jr aS), ⟨rfl, ⟨rfl, _, fun _ => [.str v1, sl 2 TParam.cells v4, sl 2 TParam.cells v7, .own 3 (0 + 1) 0 qh.length, .bool false, .aq], rfl, ar rfl, (lg (abU _ _ _ _ _ h rfl) (tk [0, 1, 2, 3] ⟨.p, .p, .p, .i, ⟨⟩⟩ ⟨(nA rfl), (nb rfl ⟨.s, .aq, .aq, .aq, .b, .aq, ⟨⟩⟩), (nb rfl ⟨.s, .l, .l, .o, .b, .aq, ⟨⟩⟩), nw, ⟨⟩⟩))⟩⟩⟩)⟩⟩⟩⟩⟩
 exact ct ⟨_, _, _, si h, rfl, rfl⟩ (tk [0, 1, 2, 3] ⟨.p, .p, .p, ⟨⟩⟩ ⟨(nA rfl), (nb rfl ⟨.s, .aq, .aq, .aq, .b, .aq, ⟨⟩⟩), (nb rfl ⟨.s, .l, .l, .o, .b, .aq, ⟨⟩⟩), nw, ⟨⟩⟩)
 exact .f (.f (.f (.f (.f (.f (ct ⟨_, _, _, si h, rfl, rfl⟩ (tk [0, 1, 2, 3] ⟨.p, .p, .p, ⟨⟩⟩ ⟨(nA rfl), (nb rfl ⟨.s, .aq, .aq, .aq, .b, .aq, ⟨⟩⟩), (nb rfl ⟨.s, .l, .l, .o, .b, .aq, ⟨⟩⟩), nw, ⟨⟩⟩)))))))
 rintro _ _ ⟨l10, aW, mw, rfl, rfl, rfl⟩
 replace h := abT
 refine .d ?_
 obtain ⟨⟨yJ, oz⟩, A4, h⟩ := bd h
 refine ko (jF (g1000 := g1000) A4) [0] ⟨rfl, ⟨⟩⟩ (.bool yJ) [.row g1000 2 1 75 (fun _ => oz.lit), .row 0 6 1 57 (fun _ => [.str [], .aq, .aq, .aq, .bool false, .aq]), .row 0 6 1 57 (fun _ => [.str v1, sl 2 TParam.cells v4, sl 2 TParam.cells v7, .own 3 0 0 mw.length, .bool false, .aq]), .row 0 1 mw.length 9 (row cS mw)] ⟨rfl, ⟨rfl, _, fun _ => [.str v1, sl 2 TParam.cells v4, sl 2 TParam.cells v7, .own 3 0 0 mw.length, .bool yJ, .aq], rfl, ar rfl, ?_⟩⟩
 obtain ⟨Ic, U2, Bz⟩ := bd h
 replace h := U2
 refine .cut (fun σ η => ∃ Yy, ∃ Yz, ∃ K8, (Yy, Yz, K8) = Ic ∧ σ = [(2, .aG 1 0 0 0), (3, .aG 2 0 0 0)] ∧ η = [.row g1000 2 1 75 (fun _ => [sl 1 cB Yy, .int .i64 Yz]), .row 0 6 1 57 (fun _ => [.str [], .aq, .aq, .aq, .bool false, .aq]), .row 0 6 1 57 (fun _ => [.str v1, sl 2 TParam.cells v4, sl 2 TParam.cells v7, .own 3 0 0 mw.length, .bool yJ, .own 4 0 0 K8.length]), .row 0 1 mw.length 9 (row cS mw), .row 0 5 K8.length 64 (row aL.cells K8)]) ?_ ?_
 refine .d ?_
 obtain ⟨⟨mT, Qb⟩, U3, h⟩ := bd h
 refine ko (dh (g1000 := g1000) U3) [0] ⟨rfl, ⟨⟩⟩ (.int .i64 mT) [.row g1000 2 1 75 (fun _ => Qb.lit), .row 0 6 1 57 (fun _ => [.str [], .aq, .aq, .aq, .bool false, .aq]), .row 0 6 1 57 (fun _ => [.str v1, sl 2 TParam.cells v4, sl 2 TParam.cells v7, .own 3 0 0 mw.length, .bool yJ, .aq]), .row 0 1 mw.length 9 (row cS mw)] ?_
 refine le (eG.partial_correctness  (motive := fun Mk Lm vL Yx UC => Ic = UC → aB _ _ [(0, .aG 0 g1000 0 0), (2, .aG 1 0 0 0), (3, .aG 2 0 0 0), (5, .int .i64 Yx)] [.row g1000 2 1 75 (fun _ => [sl 1 cB Mk, .int .i64 Lm]), .row 0 6 1 57 (fun _ => [.str [], .aq, .aq, .aq, .bool false, .aq]), .row 0 6 1 57 (fun _ => [.str v1, sl 2 TParam.cells v4, sl 2 TParam.cells v7, .own 3 0 0 mw.length, .bool yJ, .own 4 0 0 vL.length]), .row 0 1 mw.length 9 (row cS mw), .row 0 5 vL.length 64 (row aL.cells vL)]) ?_ Qb.fB Qb.dy ([] : List aL) mT Ic h rfl) (tk [0, 1, 2, 3, 8] ⟨.p, .p, .p, .i, ⟨⟩⟩ ⟨(nA rfl), (nb rfl ⟨.s, .aq, .aq, .aq, .b, .aq, ⟨⟩⟩), (nb rfl ⟨.s, .l, .l, .o, .b, .g, ⟨⟩⟩), nw, gh, ⟨⟩⟩)
 intro F51 abW Mk Lm vL Yx UC h U4
 subst U4
 refine aB.round (.d (.d (sD h (fun Bo h => ?_) (fun Bo h => ?_))))
 refine .t ⟨rfl, (.t ⟨rfl, (.t ⟨rfl, _, rfl, (.t (.t (sD h (fun NB h => ?_) (fun NB h => ?_))))⟩)⟩)⟩
 refine .d (.d ?_)
 obtain ⟨⟨vH, H0⟩, Nd, h⟩ := bd h
 refine ko (dh (g1000 := g1000) Nd) [0] ⟨rfl, ⟨⟩⟩ (.int .i64 vH) [.row g1000 2 1 75 (fun _ => H0.lit), .row 0 6 1 57 (fun _ => [.str [], .aq, .aq, .aq, .bool false, .aq]), .row 0 6 1 57 (fun _ => [.str v1, sl 2 TParam.cells v4, sl 2 TParam.cells v7, .own 3 0 0 mw.length, .bool yJ, .own 4 0 0 vL.length]), .row 0 1 mw.length 9 (row cS mw), .row 0 5 vL.length 64 (row aL.cells vL)] ⟨rfl, _, fun _ => [.int .i64 vH, .int .i64 0, .int .i64 0, .str [], .str []], rfl, ar rfl, (.d ?_)⟩
 obtain ⟨⟨rF, Qa⟩, U5, h⟩ := bd h
 refine ko (dh (g1000 := g1000) U5) [0] ⟨rfl, ⟨⟩⟩ (.int .i64 rF) [.row g1000 2 1 75 (fun _ => Qa.lit), .row 0 6 1 57 (fun _ => [.str [], .aq, .aq, .aq, .bool false, .aq]), .row 0 6 1 57 (fun _ => [.str v1, sl 2 TParam.cells v4, sl 2 TParam.cells v7, .own 3 0 0 mw.length, .bool yJ, .own 4 0 0 vL.length]), .row 0 1 mw.length 9 (row cS mw), .row 0 5 vL.length 64 (row aL.cells vL), .row 0 5 1 64 (fun _ => [.int .i64 vH, .int .i64 0, .int .i64 0, .str [], .str []])] ⟨rfl, ⟨rfl, _, fun _ => [.int .i64 vH, .int .i64 rF, .int .i64 0, .str [], .str []], rfl, ar rfl, (.d ?_)⟩⟩
 obtain ⟨⟨Bk, yg⟩, EZ, h⟩ := bd h
 refine ko (dh (g1000 := g1000) EZ) [0] ⟨rfl, ⟨⟩⟩ (.int .i64 Bk) [.row g1000 2 1 75 (fun _ => yg.lit), .row 0 6 1 57 (fun _ => [.str [], .aq, .aq, .aq, .bool false, .aq]), .row 0 6 1 57 (fun _ => [.str v1, sl 2 TParam.cells v4, sl 2 TParam.cells v7, .own 3 0 0 mw.length, .bool yJ, .own 4 0 0 vL.length]), .row 0 1 mw.length 9 (row cS mw), .row 0 5 vL.length 64 (row aL.cells vL), .row 0 5 1 64 (fun _ => [.int .i64 vH, .int .i64 rF, .int .i64 0, .str [], .str []])] ⟨rfl, ⟨rfl, _, fun _ => [.int .i64 vH, .int .i64 rF, .int .i64 Bk, .str [], .str []], rfl, ar rfl, (.d ?_)⟩⟩
 obtain ⟨⟨mF, vI⟩, E4, h⟩ := bd h
 refine ko (b8 (g1000 := g1000) E4) [0] ⟨rfl, ⟨⟩⟩ (.str mF) [.row g1000 2 1 75 (fun _ => vI.lit), .row 0 6 1 57 (fun _ => [.str [], .aq, .aq, .aq, .bool false, .aq]), .row 0 6 1 57 (fun _ => [.str v1, sl 2 TParam.cells v4, sl 2 TParam.cells v7, .own 3 0 0 mw.length, .bool yJ, .own 4 0 0 vL.length]), .row 0 1 mw.length 9 (row cS mw), .row 0 5 vL.length 64 (row aL.cells vL), .row 0 5 1 64 (fun _ => [.int .i64 vH, .int .i64 rF, .int .i64 Bk, .str [], .str []])] ⟨rfl, ⟨rfl, _, fun _ => [.int .i64 vH, .int .i64 rF, .int .i64 Bk, .str mF, .str []], rfl, ar rfl, (.d ?_)⟩⟩
 obtain ⟨⟨su, J8⟩, Ng, h⟩ := bd h
 exact ko (b8 (g1000 := g1000) Ng) [0] ⟨rfl, ⟨⟩⟩ (.str su) [.row g1000 2 1 75 (fun _ => J8.lit), .row 0 6 1 57 (fun _ => [.str [], .aq, .aq, .aq, .bool false, .aq]), .row 0 6 1 57 (fun _ => [.str v1, sl 2 TParam.cells v4, sl 2 TParam.cells v7, .own 3 0 0 mw.length, .bool yJ, .own 4 0 0 vL.length]), .row 0 1 mw.length 9 (row cS mw), .row 0 5 vL.length 64 (row aL.cells vL), .row 0 5 1 64 (fun _ => [.int .i64 vH, .int .i64 rF, .int .i64 Bk, .str mF, .str []])] ⟨rfl, ⟨rfl, _, fun _ => [.int .i64 vH, .int .i64 rF, .int .i64 Bk, .str mF, .str su], rfl, ar rfl, ⟨rfl, ⟨rfl, _, rfl, ⟨rfl, _, rfl, ⟨row aL.cells ([(aL.mk vH rF Bk mF su)] : List aL), de aL.cells ([(aL.mk vH rF Bk mF su)] : List aL) rfl (cD rfl), (bk h fun zI U6 h => ⟨rfl, rfl, lI (l := ([(aL.mk vH rF Bk mF su)] : List aL)) aS, eL U6, zI.length, row aL.cells zI, dq U6, dB U6 aS (jr aS), ⟨rfl, ⟨rfl, _, fun _ => [.str v1, sl 2 TParam.cells v4, sl 2 TParam.cells v7, .own 3 0 0 mw.length, .bool yJ, .own 4 (0 + 1) 0 zI.length], rfl, ar rfl, (lg (abW _ _ _ _ _ h rfl) (tk [0, 1, 2, 3, 4] ⟨.p, .p, .p, .i, ⟨⟩⟩ ⟨(nA rfl), (nb rfl ⟨.s, .aq, .aq, .aq, .b, .aq, ⟨⟩⟩), (nb rfl ⟨.s, .l, .l, .o, .b, .o, ⟨⟩⟩), nw, nw, ⟨⟩⟩))⟩⟩⟩)⟩⟩⟩⟩⟩⟩
 exact ct ⟨_, _, _, si h, rfl, rfl⟩ (tk [0, 1, 2, 3, 4] ⟨.p, .p, ⟨⟩⟩ ⟨(nA rfl), (nb rfl ⟨.s, .aq, .aq, .aq, .b, .aq, ⟨⟩⟩), (nb rfl ⟨.s, .l, .l, .o, .b, .o, ⟨⟩⟩), nw, nw, ⟨⟩⟩)
 exact .f (.f (.f (.f (.f (.f (ct ⟨_, _, _, si h, rfl, rfl⟩ (tk [0, 1, 2, 3, 4] ⟨.p, .p, ⟨⟩⟩ ⟨(nA rfl), (nb rfl ⟨.s, .aq, .aq, .aq, .b, .aq, ⟨⟩⟩), (nb rfl ⟨.s, .l, .l, .o, .b, .o, ⟨⟩⟩), nw, nw, ⟨⟩⟩)))))))
 rintro _ _ ⟨Yy, Yz, K8, rfl, rfl, rfl⟩
 replace h := Bz
 refine .d ⟨rfl, _, rfl, ⟨rfl, _, fun _ => [.str v1, sl 2 TParam.cells v4, sl 2 TParam.cells v7, .own 3 0 0 mw.length, .bool yJ, .own 4 0 0 K8.length], rfl, ar rfl, ?_⟩⟩
 obtain rfl := si h
 exact ⟨rfl, _, rfl, (en [0] ⟨rfl, rfl⟩ (.bD ⟨.s, .l, .l, .r, .b, .r, ⟨⟩⟩) ⟨(ob rfl ⟨.l, .i, ⟨⟩⟩), ⟨⟩⟩)⟩
def cF (r7 : List UInt8) (zJ : Int) (tE : List au) (Kc : Int) : Option ((List UInt8) × Int × (List au)) :=
 (if Kc > 0 then
 (if zJ ≥ 0 then
 bI (dc.mk r7 zJ) >>= fun (v24, mq) =>
 bI mq >>= fun (lz, v28) =>
 ez v28 >>= fun (v30, v31) =>
 bI v31 >>= fun (Gn, yJ) =>
 iK Gn >>= fun (qT, v37) =>
 (if v37 = true then
 im 104 tE ([(au.mk v24 lz v30 qT)] : List au) >>= fun NT =>
 cF yJ.fB yJ.dy NT (ai (Kc - 1))
 else
 im 104 tE ([(au.mk v24 lz v30 qT)] : List au) >>= fun oA =>
 cF yJ.fB (-1) oA (ai (Kc - 1)))
 else
 some (r7, zJ, tE))
 else
 some (r7, zJ, tE))
partial_fixpoint
def dU (rr : List UInt8) (qy : Int) (uZ : List aj) (YA : Int) : Option ((List UInt8) × Int × (List aj)) :=
 (if YA > 0 then
 (if qy ≥ 0 then
 bI (dc.mk rr qy) >>= fun (mF, vI) =>
 bI vI >>= fun (su, J8) =>
 bI J8 >>= fun (Ge, v70) =>
 ez v70 >>= fun (v72, Kk) =>
 ez Kk >>= fun (v75, v76) =>
 im 56 uZ ([(aj.mk mF su Ge v72 v75)] : List aj) >>= fun Ml =>
 dU v76.fB v76.dy Ml (ai (YA - 1))
 else
 some (rr, qy, uZ))
 else
 some (rr, qy, uZ))
partial_fixpoint
def jG (a0 : dc) : Option (aw × dc) :=
 bI a0 >>= fun (v1, v2) =>
 bI v2 >>= fun (v4, v5) =>
 (
 bV v5 >>= fun (lZ, CO) =>
 cF CO.fB CO.dy ([] : List au) lZ
 : Option ((List UInt8) × Int × (List au))) >>= fun (l7, y8, l9) =>
 (
 bV (dc.mk l7 y8) >>= fun (bT, v53) =>
 dU v53.fB v53.dy ([] : List aj) bT
 : Option ((List UInt8) × Int × (List aj))) >>= fun (Mk, Lm, vL) =>
 some ((aw.mk v1 v4 l9 vL), (dc.mk Mk Lm))
theorem xi {a0 : dc} {r : aw × dc} {g1000 : Nat} (h : jG a0 = some r) : ACall Tryz.prog 35 [.aG 0 g1000 0 0] [.row g1000 2 1 75 (fun _ => a0.lit)] (fun res h => res = .agg r.1.lit ∧ h = [.row g1000 2 1 75 (fun _ => r.2.lit)]) := by
 refine dx Tryz.func35 ?_
 unfold jG at h
 refine .d (.d ?_)
 obtain ⟨⟨v1, v2⟩, qs, h⟩ := bd h
 refine ko (b8 (g1000 := g1000) qs) [0] ⟨rfl, ⟨⟩⟩ (.str v1) [.row g1000 2 1 75 (fun _ => v2.lit), .row 0 4 1 68 (fun _ => [.str [], .str [], .aq, .aq])] ⟨rfl, _, fun _ => [.str v1, .str [], .aq, .aq], rfl, ar rfl, (.d ?_)⟩
 obtain ⟨⟨v4, v5⟩, Ac, h⟩ := bd h
 refine ko (b8 (g1000 := g1000) Ac) [0] ⟨rfl, ⟨⟩⟩ (.str v4) [.row g1000 2 1 75 (fun _ => v5.lit), .row 0 4 1 68 (fun _ => [.str [], .str [], .aq, .aq]), .row 0 4 1 68 (fun _ => [.str v1, .str [], .aq, .aq])] ⟨rfl, ⟨rfl, _, fun _ => [.str v1, .str v4, .aq, .aq], rfl, ar rfl, ?_⟩⟩
 obtain ⟨Qw, M1, Gx⟩ := bd h
 replace h := M1
 refine .cut (fun σ η => ∃ l7, ∃ y8, ∃ l9, (l7, y8, l9) = Qw ∧ σ = [(0, .aG 0 g1000 0 0), (2, .aG 1 0 0 0), (3, .aG 2 0 0 0)] ∧ η = [.row g1000 2 1 75 (fun _ => [sl 1 cB l7, .int .i64 y8]), .row 0 4 1 68 (fun _ => [.str [], .str [], .aq, .aq]), .row 0 4 1 68 (fun _ => [.str v1, .str v4, .own 3 0 0 l9.length, .aq]), .row 0 8 l9.length 99 (row au.cells l9)]) ?_ ?_
 refine .d ?_
 obtain ⟨⟨lZ, CO⟩, IV, h⟩ := bd h
 refine ko (dh (g1000 := g1000) IV) [0] ⟨rfl, ⟨⟩⟩ (.int .i64 lZ) [.row g1000 2 1 75 (fun _ => CO.lit), .row 0 4 1 68 (fun _ => [.str [], .str [], .aq, .aq]), .row 0 4 1 68 (fun _ => [.str v1, .str v4, .aq, .aq])] ?_
 refine le (cF.partial_correctness  (motive := fun r7 zJ tE Kc YB => Qw = YB → aB _ _ [(0, .aG 0 g1000 0 0), (2, .aG 1 0 0 0), (3, .aG 2 0 0 0), (4, .int .i64 Kc)] [.row g1000 2 1 75 (fun _ => [sl 1 cB r7, .int .i64 zJ]), .row 0 4 1 68 (fun _ => [.str [], .str [], .aq, .aq]), .row 0 4 1 68 (fun _ => [.str v1, .str v4, .own 3 0 0 tE.length, .aq]), .row 0 8 tE.length 99 (row au.cells tE)]) ?_ CO.fB CO.dy ([] : List au) lZ Qw h rfl) (tk [0, 1, 2, 6] ⟨.p, .p, .p, .i, ⟨⟩⟩ ⟨(nA rfl), (nb rfl ⟨.s, .s, .aq, .aq, ⟨⟩⟩), (nb rfl ⟨.s, .s, .g, .aq, ⟨⟩⟩), gh, ⟨⟩⟩)
 intro Qt Np r7 zJ tE Kc YB h U7
 subst U7
 refine aB.round (.d (.d (sD h (fun kS h => ?_) (fun kS h => ?_))))
 refine .t ⟨rfl, (.t ⟨rfl, (.t ⟨rfl, _, rfl, (.t (.t (sD h (fun oT h => ?_) (fun oT h => ?_))))⟩)⟩)⟩
 refine .d (.d ?_)
 obtain ⟨⟨v24, mq⟩, Ia, h⟩ := bd h
 refine ko (b8 (g1000 := g1000) Ia) [0] ⟨rfl, ⟨⟩⟩ (.str v24) [.row g1000 2 1 75 (fun _ => mq.lit), .row 0 4 1 68 (fun _ => [.str [], .str [], .aq, .aq]), .row 0 4 1 68 (fun _ => [.str v1, .str v4, .own 3 0 0 tE.length, .aq]), .row 0 8 tE.length 99 (row au.cells tE)] ⟨rfl, _, fun _ => [.str v24, .str [], .bool false, .int .i64 0, .int .i64 0, .str [], .int .i64 0, .aq], rfl, ar rfl, (.d ?_)⟩
 obtain ⟨⟨lz, v28⟩, yq, h⟩ := bd h
 refine ko (b8 (g1000 := g1000) yq) [0] ⟨rfl, ⟨⟩⟩ (.str lz) [.row g1000 2 1 75 (fun _ => v28.lit), .row 0 4 1 68 (fun _ => [.str [], .str [], .aq, .aq]), .row 0 4 1 68 (fun _ => [.str v1, .str v4, .own 3 0 0 tE.length, .aq]), .row 0 8 tE.length 99 (row au.cells tE), .row 0 8 1 99 (fun _ => [.str v24, .str [], .bool false, .int .i64 0, .int .i64 0, .str [], .int .i64 0, .aq])] ⟨rfl, ⟨rfl, _, fun _ => [.str v24, .str lz, .bool false, .int .i64 0, .int .i64 0, .str [], .int .i64 0, .aq], rfl, ar rfl, (.d ?_)⟩⟩
 obtain ⟨⟨v30, v31⟩, Ie, h⟩ := bd h
 refine ko (jF (g1000 := g1000) Ie) [0] ⟨rfl, ⟨⟩⟩ (.bool v30) [.row g1000 2 1 75 (fun _ => v31.lit), .row 0 4 1 68 (fun _ => [.str [], .str [], .aq, .aq]), .row 0 4 1 68 (fun _ => [.str v1, .str v4, .own 3 0 0 tE.length, .aq]), .row 0 8 tE.length 99 (row au.cells tE), .row 0 8 1 99 (fun _ => [.str v24, .str lz, .bool false, .int .i64 0, .int .i64 0, .str [], .int .i64 0, .aq])] ⟨rfl, ⟨rfl, _, fun _ => [.str v24, .str lz, .bool v30, .int .i64 0, .int .i64 0, .str [], .int .i64 0, .aq], rfl, ar rfl, (.d ?_)⟩⟩
 obtain ⟨⟨Gn, yJ⟩, U8, h⟩ := bd h
 refine ko (b8 (g1000 := g1000) U8) [0] ⟨rfl, ⟨⟩⟩ (.str Gn) [.row g1000 2 1 75 (fun _ => yJ.lit), .row 0 4 1 68 (fun _ => [.str [], .str [], .aq, .aq]), .row 0 4 1 68 (fun _ => [.str v1, .str v4, .own 3 0 0 tE.length, .aq]), .row 0 8 tE.length 99 (row au.cells tE), .row 0 8 1 99 (fun _ => [.str v24, .str lz, .bool v30, .int .i64 0, .int .i64 0, .str [], .int .i64 0, .aq])] ?_
 obtain ⟨⟨qT, v37⟩, abX, h⟩ := bd h
 refine bJ (yL abX) ⟨rfl, _, fun _ => [.int .i64 qT.aF, .int .i64 qT.aP, .str qT.aQ, .int .i64 qT.aO, sl 8 ae.cells qT.af], rfl, ar rfl, (.d (.d (hB h (fun pK h => ?_) (fun pK h => ?_))))⟩
 refine ⟨rfl, ⟨rfl, ⟨rfl, _, fun _ => [sl 1 cB yJ.fB, .int .i64 (-1)], rfl, ar rfl, (.d ⟨rfl, _, rfl, ⟨rfl, ⟨rfl, _, fun _ => [.str v24, .str lz, .bool v30, .int .i64 qT.aF, .int .i64 qT.aP, .str qT.aQ, .int .i64 qT.aO, sl 8 ae.cells qT.af], rfl, ar rfl, ⟨rfl, ⟨rfl, _, rfl, ⟨rfl, _, rfl, ⟨row au.cells ([(au.mk v24 lz v30 qT)] : List au), de au.cells ([(au.mk v24 lz v30 qT)] : List au) rfl (cD rfl), (bk h fun oA Lb h => ⟨rfl, rfl, lI (l := ([(au.mk v24 lz v30 qT)] : List au)) aS, eL Lb, oA.length, row au.cells oA, dq Lb, dB Lb aS (jr aS), ⟨rfl, ⟨rfl, _, fun _ => [.str v1, .str v4, .own 3 (0 + 1) 0 oA.length, .aq], rfl, ar rfl, ?_⟩⟩⟩)⟩⟩⟩⟩⟩⟩⟩)⟩⟩⟩
 exact lg (Np _ _ _ _ _ h rfl) (tk [0, 1, 2, 3] ⟨.p, .p, .p, .i, ⟨⟩⟩ ⟨(nA rfl), (nb rfl ⟨.s, .s, .aq, .aq, ⟨⟩⟩), (nb rfl ⟨.s, .s, .o, .aq, ⟨⟩⟩), nw, ⟨⟩⟩)
 exact .d ⟨rfl, _, rfl, ⟨rfl, ⟨rfl, _, fun _ => [.str v24, .str lz, .bool v30, .int .i64 qT.aF, .int .i64 qT.aP, .str qT.aQ, .int .i64 qT.aO, sl 8 ae.cells qT.af], rfl, ar rfl, ⟨rfl, ⟨rfl, _, rfl, ⟨rfl, _, rfl, ⟨row au.cells ([(au.mk v24 lz v30 qT)] : List au), de au.cells ([(au.mk v24 lz v30 qT)] : List au) rfl (cD rfl), (bk h fun NT C7 h => ⟨rfl, rfl, lI (l := ([(au.mk v24 lz v30 qT)] : List au)) aS, eL C7, NT.length, row au.cells NT, dq C7, dB C7 aS (jr aS), ⟨rfl, ⟨rfl, _, fun _ => [.str v1, .str v4, .own 3 (0 + 1) 0 NT.length, .aq], rfl, ar rfl, (lg (Np _ _ _ _ _ h rfl) (tk [0, 1, 2, 3] ⟨.p, .p, .p, .i, ⟨⟩⟩ ⟨(nA rfl), (nb rfl ⟨.s, .s, .aq, .aq, ⟨⟩⟩), (nb rfl ⟨.s, .s, .o, .aq, ⟨⟩⟩), nw, ⟨⟩⟩))⟩⟩⟩)⟩⟩⟩⟩⟩⟩⟩
 exact ct ⟨_, _, _, si h, rfl, rfl⟩ (tk [0, 1, 2, 3] ⟨.p, .p, .p, ⟨⟩⟩ ⟨(nA rfl), (nb rfl ⟨.s, .s, .aq, .aq, ⟨⟩⟩), (nb rfl ⟨.s, .s, .o, .aq, ⟨⟩⟩), nw, ⟨⟩⟩)
 exact .f (.f (.f (.f (.f (.f (ct ⟨_, _, _, si h, rfl, rfl⟩ (tk [0, 1, 2, 3] ⟨.p, .p, .p, ⟨⟩⟩ ⟨(nA rfl), (nb rfl ⟨.s, .s, .aq, .aq, ⟨⟩⟩), (nb rfl ⟨.s, .s, .o, .aq, ⟨⟩⟩), nw, ⟨⟩⟩)))))))
 rintro _ _ ⟨l7, y8, l9, rfl, rfl, rfl⟩
 replace h := Gx
 obtain ⟨o49, abY, abZ⟩ := bd h
 replace h := abY
 refine .cut (fun σ η => ∃ Mk, ∃ Lm, ∃ vL, (Mk, Lm, vL) = o49 ∧ σ = [(2, .aG 1 0 0 0), (3, .aG 2 0 0 0)] ∧ η = [.row g1000 2 1 75 (fun _ => [sl 1 cB Mk, .int .i64 Lm]), .row 0 4 1 68 (fun _ => [.str [], .str [], .aq, .aq]), .row 0 4 1 68 (fun _ => [.str v1, .str v4, .own 3 0 0 l9.length, .own 4 0 0 vL.length]), .row 0 8 l9.length 99 (row au.cells l9), .row 0 5 vL.length 106 (row aj.cells vL)]) ?_ ?_
 refine .d ?_
 obtain ⟨⟨bT, v53⟩, Ff, h⟩ := bd h
 refine ko (dh (g1000 := g1000) Ff) [0] ⟨rfl, ⟨⟩⟩ (.int .i64 bT) [.row g1000 2 1 75 (fun _ => v53.lit), .row 0 4 1 68 (fun _ => [.str [], .str [], .aq, .aq]), .row 0 4 1 68 (fun _ => [.str v1, .str v4, .own 3 0 0 l9.length, .aq]), .row 0 8 l9.length 99 (row au.cells l9)] ?_
 refine le (dU.partial_correctness  (motive := fun rr qy uZ YA o80 => o49 = o80 → aB _ _ [(0, .aG 0 g1000 0 0), (2, .aG 1 0 0 0), (3, .aG 2 0 0 0), (8, .int .i64 YA)] [.row g1000 2 1 75 (fun _ => [sl 1 cB rr, .int .i64 qy]), .row 0 4 1 68 (fun _ => [.str [], .str [], .aq, .aq]), .row 0 4 1 68 (fun _ => [.str v1, .str v4, .own 3 0 0 l9.length, .own 4 0 0 uZ.length]), .row 0 8 l9.length 99 (row au.cells l9), .row 0 5 uZ.length 106 (row aj.cells uZ)]) ?_ v53.fB v53.dy ([] : List aj) bT o49 h rfl) (tk [0, 1, 2, 3, 8] ⟨.p, .p, .p, .i, ⟨⟩⟩ ⟨(nA rfl), (nb rfl ⟨.s, .s, .aq, .aq, ⟨⟩⟩), (nb rfl ⟨.s, .s, .o, .g, ⟨⟩⟩), nw, gh, ⟨⟩⟩)
 intro QO ab0 rr qy uZ YA o80 h ab1
 subst ab1
 refine aB.round (.d (.d (sD h (fun U9 h => ?_) (fun U9 h => ?_))))
 refine .t ⟨rfl, (.t ⟨rfl, (.t ⟨rfl, _, rfl, (.t (.t (sD h (fun Nf h => ?_) (fun Nf h => ?_))))⟩)⟩)⟩
 refine .d (.d ?_)
 obtain ⟨⟨mF, vI⟩, E4, h⟩ := bd h
 refine ko (b8 (g1000 := g1000) E4) [0] ⟨rfl, ⟨⟩⟩ (.str mF) [.row g1000 2 1 75 (fun _ => vI.lit), .row 0 4 1 68 (fun _ => [.str [], .str [], .aq, .aq]), .row 0 4 1 68 (fun _ => [.str v1, .str v4, .own 3 0 0 l9.length, .own 4 0 0 uZ.length]), .row 0 8 l9.length 99 (row au.cells l9), .row 0 5 uZ.length 106 (row aj.cells uZ)] ⟨rfl, _, fun _ => [.str mF, .str [], .str [], .bool false, .bool false], rfl, ar rfl, (.d ?_)⟩
 obtain ⟨⟨su, J8⟩, Ng, h⟩ := bd h
 refine ko (b8 (g1000 := g1000) Ng) [0] ⟨rfl, ⟨⟩⟩ (.str su) [.row g1000 2 1 75 (fun _ => J8.lit), .row 0 4 1 68 (fun _ => [.str [], .str [], .aq, .aq]), .row 0 4 1 68 (fun _ => [.str v1, .str v4, .own 3 0 0 l9.length, .own 4 0 0 uZ.length]), .row 0 8 l9.length 99 (row au.cells l9), .row 0 5 uZ.length 106 (row aj.cells uZ), .row 0 5 1 106 (fun _ => [.str mF, .str [], .str [], .bool false, .bool false])] ⟨rfl, ⟨rfl, _, fun _ => [.str mF, .str su, .str [], .bool false, .bool false], rfl, ar rfl, (.d ?_)⟩⟩
 obtain ⟨⟨Ge, v70⟩, ab2, h⟩ := bd h
 refine ko (b8 (g1000 := g1000) ab2) [0] ⟨rfl, ⟨⟩⟩ (.str Ge) [.row g1000 2 1 75 (fun _ => v70.lit), .row 0 4 1 68 (fun _ => [.str [], .str [], .aq, .aq]), .row 0 4 1 68 (fun _ => [.str v1, .str v4, .own 3 0 0 l9.length, .own 4 0 0 uZ.length]), .row 0 8 l9.length 99 (row au.cells l9), .row 0 5 uZ.length 106 (row aj.cells uZ), .row 0 5 1 106 (fun _ => [.str mF, .str su, .str [], .bool false, .bool false])] ⟨rfl, ⟨rfl, _, fun _ => [.str mF, .str su, .str Ge, .bool false, .bool false], rfl, ar rfl, (.d ?_)⟩⟩
 obtain ⟨⟨v72, Kk⟩, Va, h⟩ := bd h
 refine ko (jF (g1000 := g1000) Va) [0] ⟨rfl, ⟨⟩⟩ (.bool v72) [.row g1000 2 1 75 (fun _ => Kk.lit), .row 0 4 1 68 (fun _ => [.str [], .str [], .aq, .aq]), .row 0 4 1 68 (fun _ => [.str v1, .str v4, .own 3 0 0 l9.length, .own 4 0 0 uZ.length]), .row 0 8 l9.length 99 (row au.cells l9), .row 0 5 uZ.length 106 (row aj.cells uZ), .row 0 5 1 106 (fun _ => [.str mF, .str su, .str Ge, .bool false, .bool false])] ⟨rfl, ⟨rfl, _, fun _ => [.str mF, .str su, .str Ge, .bool v72, .bool false], rfl, ar rfl, (.d ?_)⟩⟩
 obtain ⟨⟨v75, v76⟩, Vb, h⟩ := bd h
 exact ko (jF (g1000 := g1000) Vb) [0] ⟨rfl, ⟨⟩⟩ (.bool v75) [.row g1000 2 1 75 (fun _ => v76.lit), .row 0 4 1 68 (fun _ => [.str [], .str [], .aq, .aq]), .row 0 4 1 68 (fun _ => [.str v1, .str v4, .own 3 0 0 l9.length, .own 4 0 0 uZ.length]), .row 0 8 l9.length 99 (row au.cells l9), .row 0 5 uZ.length 106 (row aj.cells uZ), .row 0 5 1 106 (fun _ => [.str mF, .str su, .str Ge, .bool v72, .bool false])] ⟨rfl, ⟨rfl, _, fun _ => [.str mF, .str su, .str Ge, .bool v72, .bool v75], rfl, ar rfl, ⟨rfl, ⟨rfl, _, rfl, ⟨rfl, _, rfl, ⟨row aj.cells ([(aj.mk mF su Ge v72 v75)] : List aj), de aj.cells ([(aj.mk mF su Ge v72 v75)] : List aj) rfl (cD rfl), (bk h fun Ml Ln h => ⟨rfl, rfl, lI (l := ([(aj.mk mF su Ge v72 v75)] : List aj)) aS, eL Ln, Ml.length, row aj.cells Ml, dq Ln, dB Ln aS (jr aS), ⟨rfl, ⟨rfl, _, fun _ => [.str v1, .str v4, .own 3 0 0 l9.length, .own 4 (0 + 1) 0 Ml.length], rfl, ar rfl, (lg (ab0 _ _ _ _ _ h rfl) (tk [0, 1, 2, 3, 4] ⟨.p, .p, .p, .i, ⟨⟩⟩ ⟨(nA rfl), (nb rfl ⟨.s, .s, .aq, .aq, ⟨⟩⟩), (nb rfl ⟨.s, .s, .o, .o, ⟨⟩⟩), nw, nw, ⟨⟩⟩))⟩⟩⟩)⟩⟩⟩⟩⟩⟩
 exact ct ⟨_, _, _, si h, rfl, rfl⟩ (tk [0, 1, 2, 3, 4] ⟨.p, .p, ⟨⟩⟩ ⟨(nA rfl), (nb rfl ⟨.s, .s, .aq, .aq, ⟨⟩⟩), (nb rfl ⟨.s, .s, .o, .o, ⟨⟩⟩), nw, nw, ⟨⟩⟩)
 exact .f (.f (.f (.f (.f (.f (ct ⟨_, _, _, si h, rfl, rfl⟩ (tk [0, 1, 2, 3, 4] ⟨.p, .p, ⟨⟩⟩ ⟨(nA rfl), (nb rfl ⟨.s, .s, .aq, .aq, ⟨⟩⟩), (nb rfl ⟨.s, .s, .o, .o, ⟨⟩⟩), nw, nw, ⟨⟩⟩)))))))
 rintro _ _ ⟨Mk, Lm, vL, rfl, rfl, rfl⟩
 replace h := abZ
 refine .d ⟨rfl, _, rfl, ⟨rfl, _, fun _ => [.str v1, .str v4, .own 3 0 0 l9.length, .own 4 0 0 vL.length], rfl, ar rfl, ?_⟩⟩
 obtain rfl := si h
 exact ⟨rfl, _, rfl, (en [0] ⟨rfl, rfl⟩ (.bD ⟨.s, .s, .r, .r, ⟨⟩⟩) ⟨(ob rfl ⟨.l, .i, ⟨⟩⟩), ⟨⟩⟩)⟩
def dF (l10 : List UInt8) (aW : Int) (mw : List aC) (NR : Int) : Option ((List UInt8) × Int × (List aC)) :=
 (if NR > 0 then
 (if aW ≥ 0 then
 kg (dc.mk l10 aW) >>= fun (ly, zt) =>
 im 120 mw ([ly] : List aC) >>= fun GX =>
 dF zt.fB zt.dy GX (ai (NR - 1))
 else
 some (l10, aW, mw))
 else
 some (l10, aW, mw))
partial_fixpoint
def dG (wU : List UInt8) (Kl : Int) (NU : List aw) (NV : Int) : Option ((List UInt8) × Int × (List aw)) :=
 (if NV > 0 then
 (if Kl ≥ 0 then
 jG (dc.mk wU Kl) >>= fun (bE, mT) =>
 im 80 NU ([bE] : List aw) >>= fun vy =>
 dG mT.fB mT.dy vy (ai (NV - 1))
 else
 some (wU, Kl, NU))
 else
 some (wU, Kl, NU))
partial_fixpoint
def iW (a0 : List UInt8) : Option (aN × Bool) :=
 (
 bV (dc.mk a0 0) >>= fun (v7, v8) =>
 dF v8.fB v8.dy ([] : List aC) v7
 : Option ((List UInt8) × Int × (List aC))) >>= fun (l1, y2, l3) =>
 (
 bV (dc.mk l1 y2) >>= fun (v31, Gl) =>
 dG Gl.fB Gl.dy ([] : List aw) v31
 : Option ((List UInt8) × Int × (List aw))) >>= fun (IW, Mm, Km) =>
 (if Mm = (a0.length : Int) then
 lT (aN.mk l3 Km) >>= fun vz =>
 (if vz = true then
 some ((aN.mk l3 Km), true)
 else
 some ((aN.mk [] []), false))
 else
 some ((aN.mk [] []), false))
theorem wo {a0 : List UInt8} {r : aN × Bool} (h : iW a0 = some r) : ACall Tryz.prog 14 [sl 1 cB a0] [] (fun res h => res = .fu [.agg r.1.lit, .bool r.2] ∧ h = []) := by
 refine dx Tryz.func14 ?_
 unfold iW at h
 refine .d (.d ⟨rfl, _, fun _ => [sl 1 cB a0, .int .i64 0], rfl, ar rfl, (.d ⟨rfl, _, fun _ => [.aq, .aq], rfl, ar rfl, ?_⟩)⟩)
 obtain ⟨o4, QN, NS⟩ := bd h
 replace h := QN
 refine .cut (fun σ η => ∃ l1, ∃ y2, ∃ l3, (l1, y2, l3) = o4 ∧ σ = [(0, sl 1 cB a0), (2, .aG 0 0 0 0), (4, .aG 1 0 0 0), (5, .aG 2 0 0 0)] ∧ η = [.row 0 2 1 33 (fun _ => [.aq, .aq]), .row 0 2 1 75 (fun _ => [sl 1 cB l1, .int .i64 y2]), .row 0 2 1 33 (fun _ => [.own 3 0 0 l3.length, .aq]), .row 0 6 l3.length 57 (row aC.cells l3)]) ?_ ?_
 refine .d ?_
 obtain ⟨⟨v7, v8⟩, KW, h⟩ := bd h
 refine ko (dh (g1000 := 0) KW) [1] ⟨rfl, ⟨⟩⟩ (.int .i64 v7) [.row 0 2 1 33 (fun _ => [.aq, .aq]), .row 0 2 1 75 (fun _ => v8.lit), .row 0 2 1 33 (fun _ => [.aq, .aq])] ?_
 refine le (dF.partial_correctness  (motive := fun l10 aW mw NR J2 => o4 = J2 → aB _ _ [(0, sl 1 cB a0), (2, .aG 0 0 0 0), (4, .aG 1 0 0 0), (5, .aG 2 0 0 0), (6, .int .i64 NR)] [.row 0 2 1 33 (fun _ => [.aq, .aq]), .row 0 2 1 75 (fun _ => [sl 1 cB l10, .int .i64 aW]), .row 0 2 1 33 (fun _ => [.own 3 0 0 mw.length, .aq]), .row 0 6 mw.length 57 (row aC.cells mw)]) ?_ v8.fB v8.dy ([] : List aC) v7 o4 h rfl) (tk [0, 1, 2, 6] ⟨.l, .p, .p, .p, .i, ⟨⟩⟩ ⟨(nb rfl ⟨.aq, .aq, ⟨⟩⟩), (bn rfl), (nb rfl ⟨.g, .aq, ⟨⟩⟩), gh, ⟨⟩⟩)
 intro F15 U0 l10 aW mw NR J2 h MG
 subst MG
 refine aB.round (.d (.d (sD h (fun kz h => ?_) (fun kz h => ?_))))
 refine ⟨rfl, (.t ⟨rfl, _, rfl, (.t (.t (sD h (fun jO h => ?_) (fun jO h => ?_))))⟩)⟩
 refine .d (.float [(0, true), (1, true), (2, false), (3, false), (4, false), (5, true), (6, false)] ahA ?_)
 refine ⟨rfl, ⟨rfl, _, rfl, ?_⟩⟩
 obtain ⟨⟨ly, zt⟩, EF, h⟩ := bd h
 exact ko (yK (g1000 := 0) EF) [1] ⟨rfl, ⟨⟩⟩ (.agg ly.lit) [.row 0 2 1 33 (fun _ => [.aq, .aq]), .row 0 2 1 75 (fun _ => zt.lit), .row 0 2 1 33 (fun _ => [.own 3 0 0 mw.length, .aq]), .row 0 6 mw.length 57 (row aC.cells mw)] ⟨rfl, ⟨rfl, ⟨row aC.cells ([ly] : List aC), de aC.cells ([ly] : List aC) rfl (cD rfl), ⟨rfl, ⟨rfl, (bk h fun GX Et h => ⟨rfl, rfl, lI (l := ([ly] : List aC)) aS, eL Et, GX.length, row aC.cells GX, dq Et, dB Et aS (jr aS), ⟨rfl, ⟨rfl, _, fun _ => [.own 3 (0 + 1) 0 GX.length, .aq], rfl, ar rfl, (lg (U0 _ _ _ _ _ h rfl) (tk [0, 1, 2, 3] ⟨.l, .p, .p, .p, .i, ⟨⟩⟩ ⟨(nb rfl ⟨.aq, .aq, ⟨⟩⟩), (bn rfl), (nb rfl ⟨.o, .aq, ⟨⟩⟩), nw, ⟨⟩⟩))⟩⟩⟩)⟩⟩⟩⟩⟩
 exact ct ⟨_, _, _, si h, rfl, rfl⟩ (tk [0, 1, 2, 3] ⟨.l, .p, .p, .p, ⟨⟩⟩ ⟨(nb rfl ⟨.aq, .aq, ⟨⟩⟩), (bn rfl), (nb rfl ⟨.o, .aq, ⟨⟩⟩), nw, ⟨⟩⟩)
 exact .f (.f (.f (.f (ct ⟨_, _, _, si h, rfl, rfl⟩ (tk [0, 1, 2, 3] ⟨.l, .p, .p, .p, ⟨⟩⟩ ⟨(nb rfl ⟨.aq, .aq, ⟨⟩⟩), (bn rfl), (nb rfl ⟨.o, .aq, ⟨⟩⟩), nw, ⟨⟩⟩)))))
 rintro _ _ ⟨l1, y2, l3, rfl, rfl, rfl⟩
 replace h := NS
 obtain ⟨Xf, ab3, ab4⟩ := bd h
 replace h := ab3
 refine .cut (fun σ η => ∃ IW, ∃ Mm, ∃ Km, (IW, Mm, Km) = Xf ∧ σ = [(0, sl 1 cB a0), (2, .aG 0 0 0 0), (4, .aG 1 0 0 0), (5, .aG 2 0 0 0)] ∧ η = [.row 0 2 1 33 (fun _ => [.aq, .aq]), .row 0 2 1 75 (fun _ => [sl 1 cB IW, .int .i64 Mm]), .row 0 2 1 33 (fun _ => [.own 3 0 0 l3.length, .own 4 0 0 Km.length]), .row 0 6 l3.length 57 (row aC.cells l3), .row 0 4 Km.length 68 (row aw.cells Km)]) ?_ ?_
 refine .d ?_
 obtain ⟨⟨v31, Gl⟩, TF, h⟩ := bd h
 refine ko (dh (g1000 := 0) TF) [1] ⟨rfl, ⟨⟩⟩ (.int .i64 v31) [.row 0 2 1 33 (fun _ => [.aq, .aq]), .row 0 2 1 75 (fun _ => Gl.lit), .row 0 2 1 33 (fun _ => [.own 3 0 0 l3.length, .aq]), .row 0 6 l3.length 57 (row aC.cells l3)] ?_
 refine le (dG.partial_correctness  (motive := fun wU Kl NU NV o47 => Xf = o47 → aB _ _ [(0, sl 1 cB a0), (2, .aG 0 0 0 0), (4, .aG 1 0 0 0), (5, .aG 2 0 0 0), (7, .int .i64 NV)] [.row 0 2 1 33 (fun _ => [.aq, .aq]), .row 0 2 1 75 (fun _ => [sl 1 cB wU, .int .i64 Kl]), .row 0 2 1 33 (fun _ => [.own 3 0 0 l3.length, .own 4 0 0 NU.length]), .row 0 6 l3.length 57 (row aC.cells l3), .row 0 4 NU.length 68 (row aw.cells NU)]) ?_ Gl.fB Gl.dy ([] : List aw) v31 Xf h rfl) (tk [0, 1, 2, 3, 8] ⟨.l, .p, .p, .p, .i, ⟨⟩⟩ ⟨(nb rfl ⟨.aq, .aq, ⟨⟩⟩), (bn rfl), (nb rfl ⟨.o, .g, ⟨⟩⟩), nw, gh, ⟨⟩⟩)
 intro F39 Vc wU Kl NU NV o47 h ab5
 subst ab5
 refine aB.round (.d (.d (sD h (fun sr h => ?_) (fun sr h => ?_))))
 refine ⟨rfl, (.t ⟨rfl, _, rfl, (.t (.t (sD h (fun yx h => ?_) (fun yx h => ?_))))⟩)⟩
 refine .d (.float [(0, true), (1, true), (2, false), (3, false), (4, false), (5, true), (6, false)] ahA ?_)
 refine ⟨rfl, ⟨rfl, _, rfl, ?_⟩⟩
 obtain ⟨⟨bE, mT⟩, M8, h⟩ := bd h
 exact ko (xi (g1000 := 0) M8) [1] ⟨rfl, ⟨⟩⟩ (.agg bE.lit) [.row 0 2 1 33 (fun _ => [.aq, .aq]), .row 0 2 1 75 (fun _ => mT.lit), .row 0 2 1 33 (fun _ => [.own 3 0 0 l3.length, .own 4 0 0 NU.length]), .row 0 6 l3.length 57 (row aC.cells l3), .row 0 4 NU.length 68 (row aw.cells NU)] ⟨rfl, ⟨rfl, ⟨row aw.cells ([bE] : List aw), de aw.cells ([bE] : List aw) rfl (cD rfl), ⟨rfl, ⟨rfl, (bk h fun vy tC h => ⟨rfl, rfl, lI (l := ([bE] : List aw)) aS, eL tC, vy.length, row aw.cells vy, dq tC, dB tC aS (jr aS), ⟨rfl, ⟨rfl, _, fun _ => [.own 3 0 0 l3.length, .own 4 (0 + 1) 0 vy.length], rfl, ar rfl, (lg (Vc _ _ _ _ _ h rfl) (tk [0, 1, 2, 3, 4] ⟨.l, .p, .p, .p, .i, ⟨⟩⟩ ⟨(nb rfl ⟨.aq, .aq, ⟨⟩⟩), (bn rfl), (nb rfl ⟨.o, .o, ⟨⟩⟩), nw, nw, ⟨⟩⟩))⟩⟩⟩)⟩⟩⟩⟩⟩
 exact ct ⟨_, _, _, si h, rfl, rfl⟩ (tk [0, 1, 2, 3, 4] ⟨.l, .p, .p, .p, ⟨⟩⟩ ⟨(nb rfl ⟨.aq, .aq, ⟨⟩⟩), (bn rfl), (nb rfl ⟨.o, .o, ⟨⟩⟩), nw, nw, ⟨⟩⟩)
 exact .f (.f (.f (.f (ct ⟨_, _, _, si h, rfl, rfl⟩ (tk [0, 1, 2, 3, 4] ⟨.l, .p, .p, .p, ⟨⟩⟩ ⟨(nb rfl ⟨.aq, .aq, ⟨⟩⟩), (bn rfl), (nb rfl ⟨.o, .o, ⟨⟩⟩), nw, nw, ⟨⟩⟩)))))
 rintro _ _ ⟨IW, Mm, Km, rfl, rfl, rfl⟩
 replace h := ab4
 refine .d (.d ⟨rfl, ⟨rfl, _, rfl, (sN h (fun Bg h => ?_) (fun Bg h => ?_))⟩⟩)
 refine .t (.t (.t (.t (.d ⟨rfl, _, fun _ => [.aq, .aq], rfl, ar rfl, ?_⟩))))
 obtain rfl := si h
 exact ⟨rfl, _, rfl, (en [] ⟨rfl, rfl⟩ (.bq ⟨.bD ⟨.z, .z, ⟨⟩⟩, .b, ⟨⟩⟩) ⟨⟩)⟩
 refine ⟨rfl, _, rfl, (.f (bk h fun vz NW h => (Qc (BA NW) ⟨.bD ⟨.r, .r, ⟨⟩⟩, ⟨⟩⟩ (.f (.f (hB h (fun Bo h => ?_) (fun Bo h => ?_)))))))⟩
 refine .d ⟨rfl, _, fun _ => [.aq, .aq], rfl, ar rfl, ?_⟩
 obtain rfl := si h
 exact ⟨rfl, _, rfl, (en [] ⟨rfl, rfl⟩ (.bq ⟨.bD ⟨.z, .z, ⟨⟩⟩, .b, ⟨⟩⟩) ⟨⟩)⟩
 refine .d ⟨rfl, _, rfl, ⟨rfl, _, fun _ => [.own 3 0 0 l3.length, .own 4 0 0 Km.length], rfl, ar rfl, ?_⟩⟩
 obtain rfl := si h
 exact ⟨rfl, _, rfl, (en [] ⟨rfl, rfl⟩ (.bq ⟨.bD ⟨.r, .r, ⟨⟩⟩, .b, ⟨⟩⟩) ⟨⟩)⟩
set_option maxRecDepth 100000
mutual
def k9 (a0 : ah) : Option (Bool) :=
 ((
 (if a0.aF = 4 then
 ((
 iq a0 0
 : Option ((Unit) ⊕ ((Unit) ⊕ Bool))) >>= fun o5 => match o5 with
 | .inr r => some r
 | .inl _ =>
 some (.inr true)
 )
 else
 some (.inl ()))
 : Option ((Unit) ⊕ Bool)) >>= fun o1 => match o1 with
 | .inr r => some r
 | .inl _ =>
 zu a0.aF 0 3 >>= fun kK =>
 some kK
 )
partial_fixpoint
def iq (a0 : ah) (y8 : Int) : Option ((Unit) ⊕ ((Unit) ⊕ Bool)) :=
 (if y8 < (a0.af.length : Int) then
 idx a0.af y8 >>= fun tL =>
 k9 tL.aY >>= fun tW =>
 (if tW = true then
 iq a0 (ai (y8 + 1))
 else
 some (.inr (.inr false)))
 else
 some (.inl ()))
partial_fixpoint
end
def Fg (a0 : ah) (r : Bool) : Prop := ACall Tryz.prog 114 [.agg a0.lit] [] (fun res h => res = .bool r ∧ h = [])
inductive fG : ah → Int → ((Unit) ⊕ ((Unit) ⊕ Bool)) → Prop
 | mk (NX : ah → Option (Bool)) (YC : ∀ a0 r, NX a0 = some r → Fg a0 r) (ib : ah → Int → Option ((Unit) ⊕ ((Unit) ⊕ Bool))) (xj : ∀ a0 y8 o, ib a0 y8 = some o → fG a0 y8 o) (a0 : ah) (y8 : Int) (o : (Unit) ⊕ ((Unit) ⊕ Bool)) (h : (
 (if y8 < (a0.af.length : Int) then
 idx a0.af y8 >>= fun tL =>
 NX tL.aY >>= fun tW =>
 (if tW = true then
 ib a0 (ai (y8 + 1))
 else
 some (.inr (.inr false)))
 else
 some (.inl ()))
 ) = some o) : fG a0 y8 o
theorem wq {motive : ah → Int → ((Unit) ⊕ ((Unit) ⊕ Bool)) → Prop} (step : ∀ (NX : ah → Option (Bool)) (YC : ∀ a0 r, NX a0 = some r → Fg a0 r) (ib : ah → Int → Option ((Unit) ⊕ ((Unit) ⊕ Bool))) (xj : ∀ a0 y8 o, ib a0 y8 = some o → fG a0 y8 o) (a0 : ah) (y8 : Int) (o : (Unit) ⊕ ((Unit) ⊕ Bool)) (h : (
 (if y8 < (a0.af.length : Int) then
 idx a0.af y8 >>= fun tL =>
 NX tL.aY >>= fun tW =>
 (if tW = true then
 ib a0 (ai (y8 + 1))
 else
 some (.inr (.inr false)))
 else
 some (.inl ()))
 ) = some o) (ih : ∀ a0 y8 o, ib a0 y8 = some o → motive a0 y8 o), motive a0 y8 o) : ∀ a0 y8 o, fG a0 y8 o → motive a0 y8 o :=
 fun a0 y8 o h => fG.rec (motive := fun a0 y8 o _ => motive a0 y8 o) step h
theorem BB : (∀ a0 r, k9 a0 = some r → Fg a0 r) ∧ (∀ a0 y8 o, iq a0 y8 = some o → fG a0 y8 o) := by
 refine k9.mutual_partial_correctness Fg fG ?_ ?_
 intro _ Vd a0 r h
 refine dx Tryz.func114 ?_
 refine .d ?_
 obtain ⟨o1, yz, mE⟩ := bd h
 replace h := yz
 refine .cut (fun σ η => .inl () = o1 ∧ σ = [(1, .aG 0 0 0 0)] ∧ η = [.row 0 5 1 97 (fun _ => a0.lit)]) ?_ ?_
 refine .d ⟨rfl, ⟨rfl, _, rfl, (sE h (fun oN h => ?_) (fun oN h => ?_))⟩⟩
 obtain ⟨o5, ym, wS⟩ := bd h
 replace h := ym
 refine .cut (fun σ η => .inl () = o5 ∧ σ = [] ∧ η = []) ?_ ?_
 refine .d ⟨rfl, ⟨rfl, _, rfl, ?_⟩⟩
 have Ve := Vd _ _ _ h
 refine le (wq (motive := fun YD y8 HX => a0 = YD → o5 = HX → aB _ _ [(9, sl 8 ae.cells a0.af), (10, .int .i64 (a0.af.length : Int)), (11, .int .i64 y8)] []) ?_ a0 0 o5 Ve rfl rfl) (tk [] ⟨.l, .i, .i, ⟨⟩⟩ ⟨⟩)
 intro _ ab6 _ _ YD y8 HX h Vf  IX ML
 subst IX
 subst ML
 refine aB.round (.d (.d (sD h (fun me h => ?_) (fun me h => ?_))))
 refine .d (.d (bk h fun tL tT h => ⟨aK tT, _, (aD tT).trans (ae.aA tL), ⟨rfl, _, fun _ => [.bool tL.bm.df, .int .i64 tL.bm.aP, .str tL.bm.aQ, .int .i64 tL.aY.aF, .int .i64 tL.aY.aP, .str tL.aY.aQ, .int .i64 tL.aY.aO, sl 8 ae.cells tL.aY.af], rfl, ar rfl, (.d ⟨rfl, ⟨rfl, _, rfl, (bk h fun tW yB h => (bJ (ab6 _ _ yB) (hB h (fun jO h => ?_) (fun jO h => ?_))))⟩⟩)⟩⟩))
 refine .d ?_
 obtain rfl := si h
 replace h := wS
 exact afX
 exact lg (Vf _ _ _ h rfl rfl) (tk [] ⟨.l, .i, .i, ⟨⟩⟩ ⟨⟩)
 exact agQ
 rintro _ _ ⟨rfl, rfl, rfl⟩
 replace h := wS
 refine .d ?_
 exact afX
 exact agS
 rintro _ _ ⟨rfl, rfl, rfl⟩
 replace h := mE
 exact .d ⟨rfl, ⟨rfl, _, rfl, (bk h fun kK tO h => (bJ (vw tO) (eB h)))⟩⟩
 intro F0 F1 CS CT a0 y8 o h
 exact .mk F0 CS F1 CT a0 y8 o h
theorem Fh {a0 : ah} {r : Bool} (h : k9 a0 = some r) : ACall Tryz.prog 114 [.agg a0.lit] [] (fun res h => res = .bool r ∧ h = []) := BB.1 a0 r h
def fP (a0 : Int) : Option (aU) :=
 m73 a0 >>= fun v1 =>
 some v1
theorem ld {a0 : Int} {r : aU} (h : fP a0 = some r) : ACall Tryz.prog 159 [.int .i64 a0] [] (fun res h => res = .str r ∧ h = []) := by
 refine dx Tryz.func159 ?_
 unfold fP at h
 exact .d (.d (bk h fun v1 rq h => (bJ (ab7 rq) (eS h))))
mutual
def dN (a0 : List UInt8) (a1 : ah) : Option ((List UInt8)) :=
 (if a1.aF = 0 then
 im 1 a0 ([78, 59] : aU) >>= fun l2 =>
 some l2
 else
 (if a1.aF = 1 then
 fP a1.aP >>= fun v5 =>
 nz [98, 58] v5 >>= fun s7 =>
 nz s7 [59] >>= fun s9 =>
 im 1 a0 s9 >>= fun NY =>
 some NY
 else
 (if a1.aF = 2 then
 fP a1.aP >>= fun CO =>
 nz [105, 58] CO >>= fun s16 =>
 nz s16 [59] >>= fun s18 =>
 im 1 a0 s18 >>= fun Xe =>
 some Xe
 else
 (if a1.aF = 3 then
 fP (a1.aQ.length : Int) >>= fun kK =>
 nz [115, 58] kK >>= fun Vg =>
 nz Vg [58] >>= fun s27 =>
 nz s27 a1.aQ >>= fun s29 =>
 nz s29 [59] >>= fun QP =>
 im 1 a0 QP >>= fun Su =>
 some Su
 else
 fP (a1.af.length : Int) >>= fun oz =>
 nz [97, 58] oz >>= fun s37 =>
 nz s37 [58] >>= fun s39 =>
 fP a1.aO >>= fun pn =>
 nz s39 pn >>= fun s43 =>
 nz s43 [123] >>= fun s45 =>
 im 1 a0 s45 >>= fun YE =>
 (
 dT a1 YE 0
 : Option ((List UInt8))) >>= fun Gf =>
 im 1 Gf ([(125 : UInt8)] : List UInt8) >>= fun l76 =>
 some l76))))
partial_fixpoint
def dT (a1 : ah) (rr : List UInt8) (qy : Int) : Option ((List UInt8)) :=
 (if qy < (a1.af.length : Int) then
 idx a1.af qy >>= fun DI =>
 jP DI.bm >>= fun mF =>
 dN rr mF >>= fun CN =>
 dN CN DI.aY >>= fun Ax =>
 dT a1 Ax (ai (qy + 1))
 else
 some rr)
partial_fixpoint
end
def Fi (a0 : List UInt8) (a1 : ah) (r : (List UInt8)) : Prop := ∀ g1000 : Nat, ACall Tryz.prog 115 [.own 0 g1000 0 a0.length, .agg a1.lit] [.row g1000 1 a0.length 5 (row cB a0)] (fun res h => ∃ G0 : Nat, res = .own 0 G0 0 r.length ∧ h = [.row G0 1 r.length 5 (row cB r)])
inductive dn : ah → (List UInt8) → Int → ((List UInt8)) → Prop
 | mk (IY : (List UInt8) → ah → Option ((List UInt8))) (YF : ∀ a0 a1 r, IY a0 a1 = some r → Fi a0 a1 r) (dY : ah → (List UInt8) → Int → Option ((List UInt8))) (sF : ∀ a1 rr qy o, dY a1 rr qy = some o → dn a1 rr qy o) (a1 : ah) (rr : List UInt8) (qy : Int) (o : (List UInt8)) (h : (
 (if qy < (a1.af.length : Int) then
 idx a1.af qy >>= fun DI =>
 jP DI.bm >>= fun mF =>
 IY rr mF >>= fun CN =>
 IY CN DI.aY >>= fun Ax =>
 dY a1 Ax (ai (qy + 1))
 else
 some rr)
 ) = some o) : dn a1 rr qy o
theorem rG {motive : ah → (List UInt8) → Int → ((List UInt8)) → Prop} (step : ∀ (IY : (List UInt8) → ah → Option ((List UInt8))) (YF : ∀ a0 a1 r, IY a0 a1 = some r → Fi a0 a1 r) (dY : ah → (List UInt8) → Int → Option ((List UInt8))) (sF : ∀ a1 rr qy o, dY a1 rr qy = some o → dn a1 rr qy o) (a1 : ah) (rr : List UInt8) (qy : Int) (o : (List UInt8)) (h : (
 (if qy < (a1.af.length : Int) then
 idx a1.af qy >>= fun DI =>
 jP DI.bm >>= fun mF =>
 IY rr mF >>= fun CN =>
 IY CN DI.aY >>= fun Ax =>
 dY a1 Ax (ai (qy + 1))
 else
 some rr)
 ) = some o) (ih : ∀ a1 rr qy o, dY a1 rr qy = some o → motive a1 rr qy o), motive a1 rr qy o) : ∀ a1 rr qy o, dn a1 rr qy o → motive a1 rr qy o :=
 fun a1 rr qy o h => dn.rec (motive := fun a1 rr qy o _ => motive a1 rr qy o) step h
theorem vA : (∀ a0 a1 r, dN a0 a1 = some r → Fi a0 a1 r) ∧ (∀ a1 rr qy o, dT a1 rr qy = some o → dn a1 rr qy o) := by
 refine dN.mutual_partial_correctness Fi dn ?_ ?_
 intro _ Vh a0 a1 r h g1000
 refine dx Tryz.func115 ?_
 refine .d (.d (.d ⟨rfl, ⟨rfl, _, rfl, (.d (sE h (fun eD h => ?_) (fun eD h => ?_)))⟩⟩))
 refine .d (bk h fun l2 P6 h => ⟨rfl, eL P6, l2.length, row cB l2, dq P6, dB P6 aS xk, ?_⟩)
 exact agC
 refine .d (sE h (fun oN h => ?_) (fun oN h => ?_))
 refine .d ⟨rfl, ⟨rfl, _, rfl, (bk h fun v5 Ac h => (bJ (ld Ac) (bk h fun s7 hx8 h => ⟨fM hx8, s7, fN hx8, (bk h fun s9 iN h => ⟨fM iN, s9, fN iN, (bk h fun NY iB h => ⟨rfl, eL iB, NY.length, row cB NY, dq iB, dB iB aS xk, ?_⟩)⟩)⟩)))⟩⟩
 exact agC
 refine .d (sE h (fun kM h => ?_) (fun kM h => ?_))
 refine .d ⟨rfl, ⟨rfl, _, rfl, (bk h fun CO IV h => (bJ (ld IV) (bk h fun s16 oS h => ⟨fM oS, s16, fN oS, (bk h fun s18 dK h => ⟨fM dK, s18, fN dK, (bk h fun Xe oD h => ⟨rfl, eL oD, Xe.length, row cB Xe, dq oD, dB oD aS xk, ?_⟩)⟩)⟩)))⟩⟩
 exact agC
 refine .d (sE h (fun kS h => ?_) (fun kS h => ?_))
 refine .d (.float [(0, true), (1, true), (2, true), (3, true), (7, true), (8, true), (4, false), (5, true), (6, true), (9, true), (10, true), (11, false), (12, true)] ahA ?_)
 refine ⟨rfl, ⟨rfl, _, rfl, ⟨rfl, ⟨rfl, _, rfl, (bk h fun kK tO h => (bJ (ld tO) ⟨rfl, ⟨rfl, (bk h fun Vg rA h => ⟨fM rA, Vg, fN rA, (bk h fun s27 YG h => ⟨fM YG, s27, fN YG, (bk h fun s29 EH h => ⟨fM EH, s29, fN EH, (bk h fun QP NZ h => ?_)⟩)⟩)⟩)⟩⟩))⟩⟩⟩⟩
 refine ⟨fM NZ, QP, fN NZ, (bk h fun Su Ah h => ⟨rfl, eL Ah, Su.length, row cB Su, dq Ah, dB Ah aS xk, ?_⟩)⟩
 exact agC
 refine .d (.float [(0, true), (1, true), (2, true), (3, true), (7, true), (8, true), (4, false), (5, true), (6, true), (9, false), (10, true), (11, true), (12, false), (13, true)] ahA ?_)
 refine ⟨rfl, ⟨rfl, _, rfl, ⟨rfl, ⟨rfl, _, rfl, (bk h fun oz A4 h => (bJ (ld A4) ⟨rfl, ⟨rfl, (bk h fun s37 Gs h => ⟨fM Gs, s37, fN Gs, (bk h fun s39 C6 h => ⟨fM C6, s39, fN C6, (bk h fun pn Ba h => (bJ (ld Ba) (bk h fun s43 GA h => ?_)))⟩)⟩)⟩⟩))⟩⟩⟩⟩
 refine ⟨fM GA, s43, fN GA, (bk h fun s45 tC h => ⟨fM tC, s45, fN tC, (bk h fun YE Vi h => ⟨rfl, eL Vi, YE.length, row cB YE, dq Vi, dB Vi aS xk, ?_⟩)⟩)⟩
 obtain ⟨o51, ab8, ab9⟩ := bd h
 replace h := ab8
 refine .cut (fun σ η => ∃ Gf, ∃ g49 : Nat, Gf = o51 ∧ σ = [(0, .own 0 g49 0 Gf.length)] ∧ η = [.row g49 1 Gf.length 5 (row cB Gf)]) ?_ ?_
 refine .d ⟨rfl, ⟨rfl, _, rfl, ?_⟩⟩
 have Vj := Vh _ _ _ _ h
 refine le (rG (motive := fun YH rr qy UC => ∀ g54 : Nat, a1 = YH → o51 = UC → aB _ _ [(0, .own 0 g54 0 rr.length), (59, sl 8 ae.cells a1.af), (60, .int .i64 (a1.af.length : Int)), (61, .int .i64 qy)] [.row g54 1 rr.length 5 (row cB rr)]) ?_ a1 YE 0 o51 Vj (g1000 + 1) rfl rfl) (tk [0] ⟨.o, .l, .i, .i, ⟨⟩⟩ ⟨od, ⟨⟩⟩)
 intro _ YI _ _ YH rr qy UC h aca g54 IZ U4
 subst IZ
 subst U4
 refine aB.round (.d (.d (sD h (fun Ix h => ?_) (fun Ix h => ?_))))
 refine .d (.d (bk h fun DI YJ h => ⟨aK YJ, _, (aD YJ).trans (ae.aA DI), ⟨rfl, _, fun _ => [.bool DI.bm.df, .int .i64 DI.bm.aP, .str DI.bm.aQ, .int .i64 DI.aY.aF, .int .i64 DI.aY.aP, .str DI.aY.aQ, .int .i64 DI.aY.aO, sl 8 ae.cells DI.aY.af], rfl, ar rfl, (.d ⟨rfl, ⟨rfl, _, rfl, (bk h fun mF Uv h => (bJ (C0 Uv) (bk h fun CN Lc h => (YK (YI _ _ _ Lc _) [0] ⟨ov, ⟨⟩⟩ (fun g67 => .own 0 g67 0 CN.length) (fun g67 => [.row g67 1 CN.length 5 (row cB CN), .row 0 8 1 197 (fun _ => DI.lit)]) fun g67 => ⟨rfl, ⟨rfl, _, rfl, (bk h fun Ax acb h => ?_)⟩⟩))))⟩⟩)⟩⟩))
 exact YK (YI _ _ _ acb _) [0] ⟨ov, ⟨⟩⟩ (fun Nh => .own 0 Nh 0 Ax.length) (fun Nh => [.row Nh 1 Ax.length 5 (row cB Ax), .row 0 8 1 197 (fun _ => DI.lit)]) fun Nh => (lg (aca _ _ _ _ h Nh rfl rfl) (tk [0] ⟨.o, .l, .i, .i, ⟨⟩⟩ ⟨od, ⟨⟩⟩))
 exact ct ⟨_, g54, si h, rfl, rfl⟩ (tk [0] ⟨.o, ⟨⟩⟩ ⟨od, ⟨⟩⟩)
 rintro _ _ ⟨Gf, g49, rfl, rfl, rfl⟩
 replace h := ab9
 refine .d ⟨row cB ([(125 : UInt8)] : List UInt8), de cB ([(125 : UInt8)] : List UInt8) rfl (cD rfl), (bk h fun l76 Vk h => ⟨rfl, rfl, lI (l := ([(125 : UInt8)] : List UInt8)) aS, eL Vk, l76.length, row cB l76, dq Vk, dB Vk aS (jr aS), ?_⟩)⟩
 obtain rfl := si h
 exact en [0] ⟨(g49 + 1), rfl, rfl⟩ .o ⟨od, ⟨⟩⟩
 intro F0 F1 CS CT a1 rr qy o h
 exact .mk F0 CS F1 CT a1 rr qy o h
theorem xl {a0 : List UInt8} {a1 : ah} {r : (List UInt8)} {g1000 : Nat} (h : dN a0 a1 = some r) : ACall Tryz.prog 115 [.own 0 g1000 0 a0.length, .agg a1.lit] [.row g1000 1 a0.length 5 (row cB a0)] (fun res h => ∃ G0 : Nat, res = .own 0 G0 0 r.length ∧ h = [.row G0 1 r.length 5 (row cB r)]) := vA.1 a0 a1 r h g1000
def kr (a0 : ah) : Option (aU × Bool) :=
 iT a0 >>= fun v1 =>
 (if v1 = true then
 k9 a0 >>= fun v4 =>
 (if v4 = true then
 dN ([] : List UInt8) a0 >>= fun v7 =>
 some (v7, true)
 else
 some ([], false))
 else
 some ([], false))
theorem BC {a0 : ah} {r : aU × Bool} (h : kr a0 = some r) : ACall Tryz.prog 62 [.agg a0.lit] [] (fun res h => res = .fu [.str r.1, .bool r.2] ∧ h = []) := by
 refine dx Tryz.func62 ?_
 unfold kr at h
 refine .d (.d (.d ⟨rfl, _, rfl, (bk h fun v1 rq h => (bJ (xm rq) (hB h (fun lE h => ?_) (fun lE h => ?_))))⟩))
 refine .t (.t (.t (.t (.d ?_))))
 exact agL
 refine ⟨rfl, _, rfl, (.f (bk h fun v4 CU h => (bJ (Fh CU) (.f (.f (hB h (fun mJ h => ?_) (fun mJ h => ?_)))))))⟩
 refine .d ?_
 exact agL
 refine .d ⟨rfl, _, rfl, (bk h fun v7 TS h => ⟨fun res h' => ∃ g9 : Nat, res = .own 1 g9 0 v7.length ∧ h' = [.row 0 5 1 97 (fun _ => a0.lit), .row g9 1 v7.length 5 (row cB v7)], ((ACall.acd (xl (g1000 := 0) TS) rfl).frame [.row 0 5 1 97 (fun _ => a0.lit)] rfl).mono (by rintro _ _ ⟨_, _, ⟨g9, rfl, rfl⟩, rfl, rfl⟩; exact ⟨g9, rfl, by simp only [aec, aep, BD Kn]; rfl⟩), ?_⟩)⟩
 rintro _ _ ⟨g9, rfl, rfl⟩
 refine ⟨rfl, v7, rfl, nY aS rfl, ?_⟩
 exact agL
set_option synthInstance.maxHeartbeats 400000
set_option synthInstance.maxSize 4000
set_option maxRecDepth 100000
def ep (a0 : aU) : Option (Int × Bool) :=
 Nw a0 0 1000000000000 >>= fun (v1, v2) =>
 some (v1, v2)
theorem vM {a0 : aU} {r : Int × Bool} (h : ep a0 = some r) : ACall Tryz.prog 191 [.str a0] [] (fun res h => res = .fu [.int .i64 r.1, .bool r.2] ∧ h = []) := by
 refine dx Tryz.func191 ?_
 unfold ep at h
 refine .d (.d ?_)
 obtain ⟨⟨v1, v2⟩, qs, h⟩ := bd h
 refine bJ (YL qs) ?_
 exact ags
def jM (a0 : aU) : Option (bH) :=
 H3 a0 >>= fun (v1, v2) =>
 (if v2 = true then
 some (bH.mk false v1 [])
 else
 some (bH.mk true 0 a0))
theorem Fj {a0 : aU} {r : bH} (h : jM a0 = some r) : ACall Tryz.prog 201 [.str a0] [] (fun res h => res = .agg r.lit ∧ h = []) := by
 refine dx Tryz.func201 ?_
 unfold jM at h
 refine .d (.d ?_)
 obtain ⟨⟨v1, v2⟩, qs, h⟩ := bd h
 refine bJ (Vl qs) (.d (.d (sV h (fun oN h => ?_) (fun oN h => ?_))))
 refine .d (bJ (w9 v1) ⟨rfl, _, fun _ => [.bool false, .int .i64 v1, .str []], rfl, ar rfl, ?_⟩)
 obtain rfl := si h
 exact ⟨rfl, _, rfl, (en [] ⟨rfl, rfl⟩ (.bD ⟨.b, .i, .s, ⟨⟩⟩) ⟨⟩)⟩
 refine .d ⟨rfl, _, fun _ => [.bool true, .int .i64 0, .str a0], rfl, ar rfl, ?_⟩
 obtain rfl := si h
 exact ⟨rfl, _, rfl, (en [] ⟨rfl, rfl⟩ (.bD ⟨.b, .i, .s, ⟨⟩⟩) ⟨⟩)⟩
def jE (a0 : ah) : Option (bH × Bool) :=
 (if a0.aF = 0 then
 some ((bH.mk true 0 []), true)
 else
 (
 (if a0.aF = 1 then
 some (a0.aF == 1)
 else
 some (a0.aF == 2))
 : Option (Bool)) >>= fun b2 =>
 (if b2 = true then
 some ((bH.mk false a0.aP []), true)
 else
 (if a0.aF = 3 then
 jM a0.aQ >>= fun v9 =>
 some (v9, true)
 else
 some ((bH.mk false 0 []), false))))
theorem I0 {a0 : ah} {r : bH × Bool} (h : jE a0 = some r) : ACall Tryz.prog 192 [.agg a0.lit] [] (fun res h => res = .fu [.agg r.1.lit, .bool r.2] ∧ h = []) := by
 refine dx Tryz.func192 ?_
 unfold jE at h
 refine .d (.d (.d ⟨rfl, ⟨rfl, _, rfl, (.d (sE h (fun eD h => ?_) (fun eD h => ?_)))⟩⟩))
 refine .d ⟨rfl, _, fun _ => [.bool true, .int .i64 0, .str []], rfl, ar rfl, ?_⟩
 exact agA
 obtain ⟨o3, TG, KX⟩ := bd h
 replace h := TG
 refine .cut (fun σ η => ∃ b2, b2 = o3 ∧ σ = [(1, .aG 0 0 0 0), (2, .aG 1 0 0 0), (5, .int .i64 a0.aF), (9, .bool b2)] ∧ η = [.row 0 5 1 97 (fun _ => a0.lit), .row 0 3 1 195 (fun _ => [.bool false, .int .i64 0, .str []])]) ?_ ?_
 refine .d (sE h (fun mJ h => ?_) (fun mJ h => ?_))
 exact ct ⟨_, si h, rfl, rfl⟩ (tk [0, 1] ⟨.p, .p, .i, .b, ⟨⟩⟩ ⟨(bn rfl), (bn rfl), ⟨⟩⟩)
 exact ct ⟨_, si h, rfl, rfl⟩ (tk [0, 1] ⟨.p, .p, .i, .b, ⟨⟩⟩ ⟨(bn rfl), (bn rfl), ⟨⟩⟩)
 rintro _ _ ⟨b2, rfl, rfl, rfl⟩
 replace h := KX
 refine sV h (fun nr h => ?_) (fun nr h => ?_)
 refine .d ⟨rfl, ⟨rfl, _, rfl, (bJ (w9 a0.aP) ⟨rfl, _, fun _ => [.bool false, .int .i64 a0.aP, .str []], rfl, ar rfl, ?_⟩)⟩⟩
 exact agA
 refine .d (sE h (fun mI h => ?_) (fun mI h => ?_))
 refine .d ⟨rfl, ⟨rfl, _, rfl, (bk h fun v9 Iu h => (bJ (Fj Iu) ⟨rfl, _, fun _ => [.bool v9.df, .int .i64 v9.aP, .str v9.aQ], rfl, ar rfl, ?_⟩))⟩⟩
 exact agA
 refine .d ⟨rfl, _, fun _ => [.bool false, .int .i64 0, .str []], rfl, ar rfl, ?_⟩
 exact agA
def bp (a0 : ao) (a1 : Int) (y4 : Int) : Option ((Unit) ⊕ (aU × ao)) :=
 (if y4 < (a0.fS.length : Int) then
 (if y4 < (ai (a0.dy + 20)) then
 oF a0.fS y4 >>= fun c9 =>
 (if (c9.toNat : Int) = a1 then
 oG a0.fS a0.dy y4 >>= fun Vm =>
 some (.inr (Vm, (ao.mk a0.fS (ai (y4 + 1)) a0.db)))
 else
 bp a0 a1 (ai (y4 + 1)))
 else
 some (.inl ()))
 else
 some (.inl ()))
partial_fixpoint
def aZ (a0 : ao) (a1 : Int) : Option (aU × ao) :=
 ((
 bp a0 a1 a0.dy
 : Option ((Unit) ⊕ (aU × ao))) >>= fun o1 => match o1 with
 | .inr r => some r
 | .inl _ =>
 some ([], (ao.mk a0.fS a0.dy true))
 )
theorem jV {a0 : ao} {a1 : Int} {r : aU × ao} {g1000 : Nat} (h : aZ a0 a1 = some r) : ACall Tryz.prog 171 [.aG 0 g1000 0 0, .int .u8 a1] [.row g1000 3 1 172 (fun _ => a0.lit)] (fun res h => res = .str r.1 ∧ h = [.row g1000 3 1 172 (fun _ => r.2.lit)]) := by
 refine dx Tryz.func171 ?_
 unfold aZ at h
 refine .d (.d ⟨rfl, ⟨rfl, ⟨rfl, _, rfl, ?_⟩⟩⟩)
 obtain ⟨o1, yz, mE⟩ := bd h
 replace h := yz
 refine .cut (fun σ η => .inl () = o1 ∧ σ = [(0, .aG 0 g1000 0 0)] ∧ η = [.row g1000 3 1 172 (fun _ => a0.lit)]) ?_ ?_
 refine .d ?_
 refine le (bp.partial_correctness a0 a1 (motive := fun y4 HV => o1 = HV → aB _ _ [(0, .aG 0 g1000 0 0), (1, .int .u8 a1), (5, .int .i64 a0.dy), (6, .int .i64 y4)] [.row g1000 3 1 172 (fun _ => a0.lit)]) ?_ a0.dy o1 h rfl) (tk [0] ⟨.p, .i, .i, .i, ⟨⟩⟩ ⟨(nA rfl), ⟨⟩⟩)
 intro F6 MS y4 HV h My
 subst My
 refine aB.round (.d (.d ⟨rfl, ⟨rfl, ⟨rfl, _, rfl, (sD h (fun nr h => ?_) (fun nr h => ?_))⟩⟩⟩))
 refine .t (.t (.t (.t (sD h (fun mI h => ?_) (fun mI h => ?_)))))
 refine .d (.d ⟨rfl, ⟨rfl, ⟨rfl, _, rfl, (bk h fun c9 iN h => ⟨jQ iN, c9, jR iN, (sE h (fun jt h => ?_) (fun jt h => ?_))⟩)⟩⟩⟩)
 refine .d ⟨rfl, ⟨rfl, ⟨rfl, _, fun _ => [.str a0.fS, .int .i64 (ai (y4 + 1)), .bool a0.db], rfl, ar rfl, (.d ⟨rfl, ⟨rfl, ⟨rfl, _, rfl, (bk h fun Vm rH h => ⟨u0 rH, Vm, u6 rH, ?_⟩)⟩⟩⟩)⟩⟩⟩
 obtain rfl := si h
 replace h := mE
 obtain rfl := si h
 exact en [0] ⟨rfl, rfl⟩ .s ⟨(ob rfl ⟨.s, .i, .b, ⟨⟩⟩), ⟨⟩⟩
 exact lg (MS _ _ h rfl) (tk [0] ⟨.p, .i, .i, .i, ⟨⟩⟩ ⟨(nA rfl), ⟨⟩⟩)
 exact ct ⟨si h, rfl, rfl⟩ (tk [0] ⟨.p, ⟨⟩⟩ ⟨(nA rfl), ⟨⟩⟩)
 exact .f (.f (.f (.f (.f (ct ⟨si h, rfl, rfl⟩ (tk [0] ⟨.p, ⟨⟩⟩ ⟨(nA rfl), ⟨⟩⟩))))))
 rintro _ _ ⟨rfl, rfl, rfl⟩
 replace h := mE
 refine .d ⟨rfl, ⟨rfl, ⟨rfl, _, fun _ => [.str a0.fS, .int .i64 a0.dy, .bool true], rfl, ar rfl, (.d ?_)⟩⟩⟩
 obtain rfl := si h
 exact en [0] ⟨rfl, rfl⟩ .s ⟨(ob rfl ⟨.s, .i, .b, ⟨⟩⟩), ⟨⟩⟩
def bK (a0 : ao) : Option (Int × ao) :=
 aZ a0 58 >>= fun (v1, v2) =>
 ep v1 >>= fun (v4, v5) =>
 (if v2.db = true then
 some (v4, (ao.mk v2.fS v2.dy true))
 else
 some (v4, (ao.mk v2.fS v2.dy (!v5))))
theorem mX {a0 : ao} {r : Int × ao} {g1000 : Nat} (h : bK a0 = some r) : ACall Tryz.prog 173 [.aG 0 g1000 0 0] [.row g1000 3 1 172 (fun _ => a0.lit)] (fun res h => res = .int .i64 r.1 ∧ h = [.row g1000 3 1 172 (fun _ => r.2.lit)]) := by
 refine dx Tryz.func173 ?_
 unfold bK at h
 refine .d (.d ?_)
 obtain ⟨⟨v1, v2⟩, qs, h⟩ := bd h
 refine ko (jV (g1000 := g1000) qs) [0] ⟨rfl, ⟨⟩⟩ (.str v1) [.row g1000 3 1 172 (fun _ => v2.lit)] ?_
 obtain ⟨⟨v4, v5⟩, Ac, h⟩ := bd h
 refine bJ (vM Ac) (.d ⟨rfl, ⟨rfl, ⟨rfl, _, rfl, (sV h (fun nr h => ?_) (fun nr h => ?_))⟩⟩⟩)
 refine .t (.t ⟨rfl, ⟨rfl, ⟨rfl, _, fun _ => [.str v2.fS, .int .i64 v2.dy, .bool true], rfl, ar rfl, (.d ?_)⟩⟩⟩)
 obtain rfl := si h
 exact en [0] ⟨rfl, rfl⟩ .i ⟨(ob rfl ⟨.s, .i, .b, ⟨⟩⟩), ⟨⟩⟩
 refine .f (.f ⟨rfl, ⟨rfl, ⟨rfl, _, fun _ => [.str v2.fS, .int .i64 v2.dy, .bool (!v5)], rfl, ar rfl, (.d ?_)⟩⟩⟩)
 obtain rfl := si h
 exact en [0] ⟨rfl, rfl⟩ .i ⟨(ob rfl ⟨.s, .i, .b, ⟨⟩⟩), ⟨⟩⟩
def br (a0 : ao) (a1 : aU) : Option (ao) :=
 tm a0.fS a0.dy >>= fun s1 =>
 Un s1 a1 >>= fun v3 =>
 (if v3 = true then
 some (ao.mk a0.fS (ai (a0.dy + (a1.length : Int))) a0.db)
 else
 some (ao.mk a0.fS a0.dy true))
theorem iX {a0 : ao} {a1 : aU} {r : ao} {g1000 : Nat} (h : br a0 a1 = some r) : ACall Tryz.prog 169 [.aG 0 g1000 0 0, .str a1] [.row g1000 3 1 172 (fun _ => a0.lit)] (fun res h => res = .fu [] ∧ h = [.row g1000 3 1 172 (fun _ => r.lit)]) := by
 refine dx Tryz.func169 ?_
 unfold br at h
 refine .d (.d (.float [(0, true), (1, true), (2, true), (3, true), (4, true), (5, true), (6, true), (7, true), (8, true), (9, true), (10, false), (11, true)] ahA ?_))
 refine ⟨rfl, ⟨rfl, ⟨rfl, _, rfl, ⟨rfl, ⟨rfl, ⟨rfl, _, rfl, (bk h fun s1 J6 h => ⟨GY J6, s1, GZ J6, (bk h fun v3 A6 h => (bJ (X2 A6) (hB h (fun lY h => ?_) (fun lY h => ?_))))⟩)⟩⟩⟩⟩⟩⟩
 refine .d ⟨rfl, ⟨rfl, ⟨rfl, _, fun _ => [.str a0.fS, .int .i64 a0.dy, .bool true], rfl, ar rfl, ?_⟩⟩⟩
 obtain rfl := si h
 exact en [0] ⟨rfl, rfl⟩ (.bq ⟨⟩) ⟨(ob rfl ⟨.s, .i, .b, ⟨⟩⟩), ⟨⟩⟩
 refine ⟨rfl, ⟨rfl, ⟨rfl, _, rfl, ⟨rfl, ⟨rfl, ⟨rfl, _, fun _ => [.str a0.fS, .int .i64 (ai (a0.dy + (a1.length : Int))), .bool a0.db], rfl, ar rfl, ?_⟩⟩⟩⟩⟩⟩
 obtain rfl := si h
 exact en [0] ⟨rfl, rfl⟩ (.bq ⟨⟩) ⟨(ob rfl ⟨.s, .i, .b, ⟨⟩⟩), ⟨⟩⟩
mutual
def bg (a0 : ao) (a1 : Int) : Option (ah × ao) :=
 (if a0.dy ≥ (a0.fS.length : Int) then
 some ((ah.mk 0 0 [] 0 []), (ao.mk a0.fS a0.dy true))
 else
 (if a1 > 200 then
 some ((ah.mk 0 0 [] 0 []), (ao.mk a0.fS a0.dy true))
 else
 oF a0.fS a0.dy >>= fun c3 =>
 (if (c3.toNat : Int) = 78 then
 br a0 [78, 59] >>= fun v6 =>
 some ((ah.mk 0 0 [] 0 []), v6)
 else
 br a0 ([c3, (58 : UInt8)] : List UInt8) >>= fun v8 =>
 (if v8.db = true then
 some ((ah.mk 0 0 [] 0 []), v8)
 else
 (
 (if (c3.toNat : Int) = 98 then
 some ((c3.toNat : Int) == 98)
 else
 some ((c3.toNat : Int) == 105))
 : Option (Bool)) >>= fun vG =>
 (if vG = true then
 aZ v8 59 >>= fun (rX, ly) =>
 H3 rX >>= fun (v20, v21) =>
 (if ly.db = true then
 (if (c3.toNat : Int) = 98 then
 some ((ah.mk 1 v20 [] 0 []), (ao.mk ly.fS ly.dy true))
 else
 some ((ah.mk 2 v20 [] 0 []), (ao.mk ly.fS ly.dy true)))
 else
 (if (c3.toNat : Int) = 98 then
 some ((ah.mk 1 v20 [] 0 []), (ao.mk ly.fS ly.dy (!v21)))
 else
 some ((ah.mk 2 v20 [] 0 []), (ao.mk ly.fS ly.dy (!v21)))))
 else
 (if (c3.toNat : Int) = 115 then
 bK v8 >>= fun (lz, v28) =>
 (if v28.db = true then
 some ((ah.mk 0 0 [] 0 []), (ao.mk v28.fS v28.dy true))
 else
 (if lz > (ai ((v28.fS.length : Int) - v28.dy)) then
 some ((ah.mk 0 0 [] 0 []), (ao.mk v28.fS v28.dy true))
 else
 (
 oG v28.fS v28.dy (ai (v28.dy + lz)) >>= fun Ld =>
 some Ld
 : Option (aU)) >>= fun Le =>
 br (ao.mk v28.fS (ai (v28.dy + lz)) v28.db) [59] >>= fun ED =>
 some ((ah.mk 3 0 Le 0 ([] : List ae)), ED)))
 else
 (if (c3.toNat : Int) = 97 then
 cE v8 a1 >>= fun (pn, bE) =>
 some (pn, bE)
 else
 some ((ah.mk 0 0 [] 0 []), (ao.mk v8.fS v8.dy true)))))))))
partial_fixpoint
def cE (a0 : ao) (a1 : Int) : Option (ah × ao) :=
 bK a0 >>= fun (v46, J9) =>
 aZ J9 123 >>= fun (v49, vz) =>
 ep v49 >>= fun (bT, v53) =>
 (
 (if v53 = true then
 (if v46 > 200 then
 some true
 else
 some vz.db)
 else
 some true)
 : Option (Bool)) >>= fun Xg =>
 ((
 a7 a1 v46 bT vz.fS vz.dy Xg ([] : List ae) 0
 : Option ((aU × Int × Bool × (List ae)) ⊕ (ah × ao))) >>= fun YM => match YM with
 | .inr r => some r
 | .inl (Xh, Xi, Vn, Lo) =>
 (if Vn = true then
 some ((ah.mk 4 0 [] bT Lo), (ao.mk Xh Xi Vn))
 else
 br (ao.mk Xh Xi Vn) [125] >>= fun v109 =>
 some ((ah.mk 4 0 [] bT Lo), v109))
 )
partial_fixpoint
def a7 (a1 : Int) (v46 : Int) (bT : Int) (r8 : aU) (tM : Int) (sG : Bool) (oe : List ae) (sc : Int) : Option ((aU × Int × Bool × (List ae)) ⊕ (ah × ao)) :=
 (if sc < v46 then
 (if sG = true then
 some (.inl (r8, tM, sG, oe))
 else
 bg (ao.mk r8 tM sG) (ai (a1 + 1)) >>= fun (Bi, G2) =>
 jE Bi >>= fun (pQ, Xj) =>
 (if Xj = true then
 bg G2 (ai (a1 + 1)) >>= fun (kd, v93) =>
 im 96 oe [(ae.mk pQ kd)] >>= fun Mn =>
 a7 a1 v46 bT v93.fS v93.dy v93.db Mn (ai (sc + 1))
 else
 some (.inr ((ah.mk 4 0 [] bT oe), (ao.mk G2.fS G2.dy true)))))
 else
 some (.inl (r8, tM, sG, oe)))
partial_fixpoint
end
def Fk (a0 : ao) (a1 : Int) (r : ah × ao) : Prop := ∀ g1000 : Nat, ACall Tryz.prog 125 [.aG 0 g1000 0 0, .int .i64 a1] [.row g1000 3 1 172 (fun _ => a0.lit)] (fun res h => ∃ F1 : Nat → List PV, DR ae.D r.1.af.length F1 r.1.af ∧ res = .agg [.int .i64 r.1.aF, .int .i64 r.1.aP, .str r.1.aQ, .int .i64 r.1.aO, .own 1 0 0 r.1.af.length] ∧ h = [.row g1000 3 1 172 (fun _ => r.2.lit), .row 0 8 r.1.af.length 197 F1])
def N0 (a0 : ao) (a1 : Int) (r : ah × ao) : Prop := ∀ g1000 : Nat, ACall Tryz.prog 175 [.aG 0 g1000 0 0, .int .i64 a1] [.row g1000 3 1 172 (fun _ => a0.lit)] (fun res h => ∃ F1 : Nat → List PV, DR ae.D r.1.af.length F1 r.1.af ∧ res = .agg [.int .i64 r.1.aF, .int .i64 r.1.aP, .str r.1.aQ, .int .i64 r.1.aO, .own 1 0 0 r.1.af.length] ∧ h = [.row g1000 3 1 172 (fun _ => r.2.lit), .row 0 8 r.1.af.length 197 F1])
inductive ck : Int → Int → Int → aU → Int → Bool → (List ae) → Int → ((aU × Int × Bool × (List ae)) ⊕ (ah × ao)) → Prop
 | mk (I1 : ao → Int → Option (ah × ao)) (YN : ∀ a0 a1 r, I1 a0 a1 = some r → Fk a0 a1 r) (cN : Int → Int → Int → aU → Int → Bool → (List ae) → Int → Option ((aU × Int × Bool × (List ae)) ⊕ (ah × ao))) (pa : ∀ a1 v46 bT r8 tM sG oe sc o, cN a1 v46 bT r8 tM sG oe sc = some o → ck a1 v46 bT r8 tM sG oe sc o) (a1 : Int) (v46 : Int) (bT : Int) (r8 : aU) (tM : Int) (sG : Bool) (oe : List ae) (sc : Int) (o : (aU × Int × Bool × (List ae)) ⊕ (ah × ao)) (h : (
 (if sc < v46 then
 (if sG = true then
 some (.inl (r8, tM, sG, oe))
 else
 I1 (ao.mk r8 tM sG) (ai (a1 + 1)) >>= fun (Bi, G2) =>
 jE Bi >>= fun (pQ, Xj) =>
 (if Xj = true then
 I1 G2 (ai (a1 + 1)) >>= fun (kd, v93) =>
 im 96 oe [(ae.mk pQ kd)] >>= fun Mn =>
 cN a1 v46 bT v93.fS v93.dy v93.db Mn (ai (sc + 1))
 else
 some (.inr ((ah.mk 4 0 [] bT oe), (ao.mk G2.fS G2.dy true)))))
 else
 some (.inl (r8, tM, sG, oe)))
 ) = some o) : ck a1 v46 bT r8 tM sG oe sc o
theorem oH {motive : Int → Int → Int → aU → Int → Bool → (List ae) → Int → ((aU × Int × Bool × (List ae)) ⊕ (ah × ao)) → Prop} (step : ∀ (I1 : ao → Int → Option (ah × ao)) (YN : ∀ a0 a1 r, I1 a0 a1 = some r → Fk a0 a1 r) (cN : Int → Int → Int → aU → Int → Bool → (List ae) → Int → Option ((aU × Int × Bool × (List ae)) ⊕ (ah × ao))) (pa : ∀ a1 v46 bT r8 tM sG oe sc o, cN a1 v46 bT r8 tM sG oe sc = some o → ck a1 v46 bT r8 tM sG oe sc o) (a1 : Int) (v46 : Int) (bT : Int) (r8 : aU) (tM : Int) (sG : Bool) (oe : List ae) (sc : Int) (o : (aU × Int × Bool × (List ae)) ⊕ (ah × ao)) (h : (
 (if sc < v46 then
 (if sG = true then
 some (.inl (r8, tM, sG, oe))
 else
 I1 (ao.mk r8 tM sG) (ai (a1 + 1)) >>= fun (Bi, G2) =>
 jE Bi >>= fun (pQ, Xj) =>
 (if Xj = true then
 I1 G2 (ai (a1 + 1)) >>= fun (kd, v93) =>
 im 96 oe [(ae.mk pQ kd)] >>= fun Mn =>
 cN a1 v46 bT v93.fS v93.dy v93.db Mn (ai (sc + 1))
 else
 some (.inr ((ah.mk 4 0 [] bT oe), (ao.mk G2.fS G2.dy true)))))
 else
 some (.inl (r8, tM, sG, oe)))
 ) = some o) (ih : ∀ a1 v46 bT r8 tM sG oe sc o, cN a1 v46 bT r8 tM sG oe sc = some o → motive a1 v46 bT r8 tM sG oe sc o), motive a1 v46 bT r8 tM sG oe sc o) : ∀ a1 v46 bT r8 tM sG oe sc o, ck a1 v46 bT r8 tM sG oe sc o → motive a1 v46 bT r8 tM sG oe sc o :=
 fun a1 v46 bT r8 tM sG oe sc o h => ck.rec (motive := fun a1 v46 bT r8 tM sG oe sc o _ => motive a1 v46 bT r8 tM sG oe sc o) step h
theorem re : (∀ a0 a1 r, bg a0 a1 = some r → Fk a0 a1 r) ∧ (∀ a0 a1 r, cE a0 a1 = some r → N0 a0 a1 r) ∧ (∀ a1 v46 bT r8 tM sG oe sc o, a7 a1 v46 bT r8 tM sG oe sc = some o → ck a1 v46 bT r8 tM sG oe sc o) := by
 refine bg.mutual_partial_correctness Fk N0 ck ?_ ?_ ?_
 intro _ Vo a0 a1 r h g1000
 refine dx Tryz.func125 ?_
 refine .d (.d (.d ⟨rfl, ⟨rfl, ⟨rfl, _, rfl, ⟨rfl, ⟨rfl, ⟨rfl, _, rfl, (sD h (fun eD h => ?_) (fun eD h => ?_))⟩⟩⟩⟩⟩⟩))
 refine .t (.t (.t (.d ⟨rfl, ⟨rfl, ⟨rfl, _, fun _ => [.str a0.fS, .int .i64 a0.dy, .bool true], rfl, ar rfl, (.d ⟨rfl, _, fun _ => [.int .i64 0, .int .i64 0, .str [], .int .i64 0, .aq], rfl, ar rfl, ?_⟩)⟩⟩⟩)))
 exact agz
 refine .f (.f (sD h (fun jo h => ?_) (fun jo h => ?_)))
 refine .d ⟨rfl, ⟨rfl, ⟨rfl, _, fun _ => [.str a0.fS, .int .i64 a0.dy, .bool true], rfl, ar rfl, (.d ⟨rfl, _, fun _ => [.int .i64 0, .int .i64 0, .str [], .int .i64 0, .aq], rfl, ar rfl, ?_⟩)⟩⟩⟩
 exact agz
 refine .d ⟨rfl, ⟨rfl, ⟨rfl, _, rfl, ⟨rfl, ⟨rfl, ⟨rfl, _, rfl, (bk h fun c3 Sv h => ⟨jQ Sv, c3, jR Sv, (.d (.d (sE h (fun lY h => ?_) (fun lY h => ?_))))⟩)⟩⟩⟩⟩⟩⟩
 refine .d (bk h fun v6 Qq h => (ko (iX (g1000 := g1000) Qq) [0] ⟨rfl, ⟨⟩⟩ (.fu []) [.row g1000 3 1 172 (fun _ => v6.lit), .row 0 5 1 97 (fun _ => [.int .i64 0, .int .i64 0, .str [], .int .i64 0, .aq])] (.d (bJ (kc) ⟨rfl, _, fun _ => [.int .i64 0, .int .i64 0, .str [], .int .i64 0, .aq], rfl, ar rfl, ?_⟩))))
 exact agz
 refine .d ⟨row cB ([c3, (58 : UInt8)] : List UInt8), de cB ([c3, (58 : UInt8)] : List UInt8) rfl (cD rfl), ⟨rfl, ([c3, (58 : UInt8)] : List UInt8), rfl, nY aS rfl, (bk h fun v8 KW h => (ko (iX (g1000 := g1000) KW) [0] ⟨rfl, ⟨⟩⟩ (.fu []) [.row g1000 3 1 172 (fun _ => v8.lit), .row 0 5 1 97 (fun _ => [.int .i64 0, .int .i64 0, .str [], .int .i64 0, .aq]), .row 0 1 ([c3, (58 : UInt8)] : List UInt8).length 5 (row cB ([c3, (58 : UInt8)] : List UInt8))] (.d (.d ⟨rfl, ⟨rfl, ⟨rfl, _, rfl, (sV h (fun iy h => ?_) (fun iy h => ?_))⟩⟩⟩))))⟩⟩
 refine .d ⟨rfl, _, fun _ => [.int .i64 0, .int .i64 0, .str [], .int .i64 0, .aq], rfl, ar rfl, ?_⟩
 exact agr
 refine .d (.d ?_)
 obtain ⟨HY, EV, jS⟩ := bd h
 replace h := EV
 refine .cut (fun σ η => ∃ vG, vG = HY ∧ σ = [(0, .aG 0 g1000 0 0), (1, .int .i64 a1), (4, .aG 1 0 0 0), (5, .int .u8 (c3.toNat : Int)), (52, .int .u8 (c3.toNat : Int)), (53, .bool vG)] ∧ η = [.row g1000 3 1 172 (fun _ => v8.lit), .row 0 5 1 97 (fun _ => [.int .i64 0, .int .i64 0, .str [], .int .i64 0, .own 2 0 0 0]), .row 0 8 0 197 (fun _ => [])]) ?_ ?_
 refine .d (sE h (fun eE h => ?_) (fun eE h => ?_))
 exact ct ⟨_, si h, rfl, rfl⟩ (tk [0, 1, 5] ⟨.p, .i, .p, .i, .i, .b, ⟨⟩⟩ ⟨(nA rfl), (nb rfl ⟨.i, .i, .s, .i, .g, ⟨⟩⟩), gh, ⟨⟩⟩)
 exact ct ⟨_, si h, rfl, rfl⟩ (tk [0, 1, 5] ⟨.p, .i, .p, .i, .i, .b, ⟨⟩⟩ ⟨(nA rfl), (nb rfl ⟨.i, .i, .s, .i, .g, ⟨⟩⟩), gh, ⟨⟩⟩)
 rintro _ _ ⟨vG, rfl, rfl, rfl⟩
 replace h := jS
 refine sV h (fun kz h => ?_) (fun kz h => ?_)
 refine .d ?_
 obtain ⟨⟨rX, ly⟩, Ey, h⟩ := bd h
 refine ko (jV (g1000 := g1000) Ey) [0] ⟨rfl, ⟨⟩⟩ (.str rX) [.row g1000 3 1 172 (fun _ => ly.lit), .row 0 5 1 97 (fun _ => [.int .i64 0, .int .i64 0, .str [], .int .i64 0, .own 2 0 0 0]), .row 0 8 0 197 (fun _ => [])] ?_
 obtain ⟨⟨v20, v21⟩, MM, h⟩ := bd h
 refine bJ (Vl MM) (.d ⟨rfl, ⟨rfl, ⟨rfl, _, rfl, (sV h (fun oT h => ?_) (fun oT h => ?_))⟩⟩⟩)
 refine .t (.t ⟨rfl, ⟨rfl, ⟨rfl, _, fun _ => [.str ly.fS, .int .i64 ly.dy, .bool true], rfl, ar rfl, (.d (.d (sE h (fun oU h => ?_) (fun oU h => ?_))))⟩⟩⟩)
 refine .d ⟨rfl, _, fun _ => [.int .i64 1, .int .i64 v20, .str [], .int .i64 0, .aq], rfl, ar rfl, ?_⟩
 exact agr
 refine .d (bJ (pF v20) ⟨rfl, _, fun _ => [.int .i64 2, .int .i64 v20, .str [], .int .i64 0, .aq], rfl, ar rfl, ?_⟩)
 exact agr
 refine .f (.f ⟨rfl, ⟨rfl, ⟨rfl, _, fun _ => [.str ly.fS, .int .i64 ly.dy, .bool (!v21)], rfl, ar rfl, (.d (.d (sE h (fun ny h => ?_) (fun ny h => ?_))))⟩⟩⟩)
 refine .d ⟨rfl, _, fun _ => [.int .i64 1, .int .i64 v20, .str [], .int .i64 0, .aq], rfl, ar rfl, ?_⟩
 exact agr
 refine .d (bJ (pF v20) ⟨rfl, _, fun _ => [.int .i64 2, .int .i64 v20, .str [], .int .i64 0, .aq], rfl, ar rfl, ?_⟩)
 exact agr
 refine .d (sE h (fun qg h => ?_) (fun qg h => ?_))
 refine .d ?_
 obtain ⟨⟨lz, v28⟩, yq, h⟩ := bd h
 refine ko (mX (g1000 := g1000) yq) [0] ⟨rfl, ⟨⟩⟩ (.int .i64 lz) [.row g1000 3 1 172 (fun _ => v28.lit), .row 0 5 1 97 (fun _ => [.int .i64 0, .int .i64 0, .str [], .int .i64 0, .own 2 0 0 0]), .row 0 8 0 197 (fun _ => [])] (.d (.d ⟨rfl, ⟨rfl, ⟨rfl, _, rfl, (sV h (fun qU h => ?_) (fun qU h => ?_))⟩⟩⟩))
 refine .t (.t (.t (.t (.t (.t (.t (.t (.t (.t (.t (.t (.t (.d ⟨rfl, ?_⟩)))))))))))))
 refine ⟨rfl, ⟨rfl, _, fun _ => [.str v28.fS, .int .i64 v28.dy, .bool true], rfl, ar rfl, (.d ⟨rfl, _, fun _ => [.int .i64 0, .int .i64 0, .str [], .int .i64 0, .aq], rfl, ar rfl, ?_⟩)⟩⟩
 exact agr
 refine .f (.f ⟨rfl, (.f ⟨rfl, (.f ⟨rfl, _, rfl, (.f (.f (.f ⟨rfl, (.f ⟨rfl, (.f ⟨rfl, _, rfl, ?_⟩)⟩)⟩)))⟩)⟩)⟩)
 refine .f (.f (.f (sD h (fun yA h => ?_) (fun yA h => ?_))))
 refine .d ⟨rfl, ⟨rfl, ⟨rfl, _, fun _ => [.str v28.fS, .int .i64 v28.dy, .bool true], rfl, ar rfl, (.d ⟨rfl, _, fun _ => [.int .i64 0, .int .i64 0, .str [], .int .i64 0, .aq], rfl, ar rfl, ?_⟩)⟩⟩⟩
 exact agr
 obtain ⟨J4, Im, wj⟩ := bd h
 replace h := Im
 refine .cut (fun σ η => ∃ Le, Le = J4 ∧ σ = [(0, .aG 0 g1000 0 0), (4, .aG 1 0 0 0), (8, .int .i64 lz), (9, .aG 3 0 0 0)] ∧ η = [.row g1000 3 1 172 (fun _ => v28.lit), .row 0 5 1 97 (fun _ => [.int .i64 0, .int .i64 0, .str [], .int .i64 0, .own 2 0 0 0]), .row 0 8 0 197 (fun _ => []), .row 0 5 1 97 (fun _ => [.int .i64 3, .int .i64 0, .str Le, .int .i64 0, .own 4 0 0 0]), .row 0 8 0 197 (fun _ => [])]) ?_ ?_
 refine .N1 [(0, true), (1, true), (2, true), (3, true), (4, true), (5, true), (6, true), (7, true), (8, true), (9, true), (10, true), (11, true), (12, true), (13, true), (14, true)] 15 [(16, false), (17, false)] 16 [(15, false), (17, false)] ahA ?_
 refine ⟨rfl, ⟨rfl, ⟨rfl, _, rfl, ⟨rfl, ⟨rfl, ⟨rfl, _, rfl, ⟨rfl, ⟨rfl, ⟨rfl, _, rfl, (bk h fun Ld MQ h => ⟨u0 MQ, Ld, u6 MQ, ⟨?_, ?_⟩⟩)⟩⟩⟩⟩⟩⟩⟩⟩⟩
 exact bJ (oE Ld) ⟨rfl, ⟨rfl, ⟨rfl, ⟨rfl, ⟨rfl, ⟨rfl, ⟨rfl, ⟨rfl, ⟨rfl, ⟨rfl, _, fun _ => [.int .i64 3, .int .i64 0, .str Ld, .int .i64 0, .aq], rfl, ar rfl, (ct ⟨_, si h, rfl, rfl⟩ (tk [0, 1, 2, 3, 8] ⟨.p, .p, .i, .p, ⟨⟩⟩ ⟨(nA rfl), (nb rfl ⟨.i, .i, .s, .i, (.od ahB), ⟨⟩⟩), (lv (DR.nil (D := ae.D))), (nb rfl ⟨.i, .i, .s, .i, .g, ⟨⟩⟩), gh, ⟨⟩⟩))⟩⟩⟩⟩⟩⟩⟩⟩⟩⟩
 exact ⟨rfl, ⟨rfl, ⟨rfl, ⟨rfl, ⟨rfl, ⟨rfl, ⟨rfl, ⟨rfl, ⟨rfl, (bJ (oE Ld) ⟨rfl, _, fun _ => [.int .i64 3, .int .i64 0, .str Ld, .int .i64 0, .aq], rfl, ar rfl, (ct ⟨_, si h, rfl, rfl⟩ (tk [0, 1, 2, 3, 8] ⟨.p, .p, .i, .p, ⟨⟩⟩ ⟨(nA rfl), (nb rfl ⟨.i, .i, .s, .i, (.od ahB), ⟨⟩⟩), (lv (DR.nil (D := ae.D))), (nb rfl ⟨.i, .i, .s, .i, .g, ⟨⟩⟩), gh, ⟨⟩⟩))⟩)⟩⟩⟩⟩⟩⟩⟩⟩⟩
 rintro _ _ ⟨Le, rfl, rfl, rfl⟩
 replace h := wj
 refine .d ⟨rfl, ⟨rfl, ⟨rfl, _, rfl, ⟨rfl, ⟨rfl, ⟨rfl, _, fun _ => [.str v28.fS, .int .i64 (ai (v28.dy + lz)), .bool v28.db], rfl, ar rfl, (.d (bk h fun ED TW h => (ko (iX (g1000 := g1000) TW) [0] ⟨rfl, ⟨⟩⟩ (.fu []) [.row g1000 3 1 172 (fun _ => ED.lit), .row 0 5 1 97 (fun _ => [.int .i64 0, .int .i64 0, .str [], .int .i64 0, .own 2 0 0 0]), .row 0 8 0 197 (fun _ => []), .row 0 5 1 97 (fun _ => [.int .i64 3, .int .i64 0, .str Le, .int .i64 0, .own 4 0 0 0]), .row 0 8 0 197 (fun _ => [])] (.d ⟨rfl, _, rfl, ⟨rfl, _, fun _ => [.int .i64 3, .int .i64 0, .str Le, .int .i64 0, .own 4 0 0 0], rfl, ar rfl, ?_⟩⟩))))⟩⟩⟩⟩⟩⟩
 obtain rfl := si h
 exact ⟨rfl, _, rfl, (en [0, 4] ⟨(fun _ => []), (DR.nil (D := ae.D)).self, rfl, rfl⟩ (.bD ⟨.i, .i, .s, .i, (.od ahB), ⟨⟩⟩) ⟨(ob rfl ⟨.s, .i, .b, ⟨⟩⟩), (lv (DR.nil (D := ae.D)) (DR.nil (D := ae.D)).len (DR.nil (D := ae.D)).len), ⟨⟩⟩)⟩
 refine .d (sE h (fun sr h => ?_) (fun sr h => ?_))
 refine .d ?_
 obtain ⟨⟨pn, bE⟩, ace, h⟩ := bd h
 refine tR (Vo _ _ _ ace _) [0] ⟨rfl, ⟨⟩⟩ ?_
 rintro _ _ ⟨f44, d45, rfl, rfl⟩
 refine ⟨.agg [.int .i64 pn.aF, .int .i64 pn.aP, .str pn.aQ, .int .i64 pn.aO, .own 3 0 0 pn.af.length], [.row g1000 3 1 172 (fun _ => bE.lit), .row 0 5 1 97 (fun _ => [.int .i64 0, .int .i64 0, .str [], .int .i64 0, .own 2 0 0 0]), .row 0 8 0 197 (fun _ => []), .row 0 8 pn.af.length 197 f44], rfl, (by simp only [lN, eM, aec, aep, List.drop, As, adU, EB, red d45]; rfl), ⟨rfl, _, fun _ => [.int .i64 pn.aF, .int .i64 pn.aP, .str pn.aQ, .int .i64 pn.aO, .own 3 0 0 pn.af.length], rfl, ar rfl, ?_⟩⟩
 obtain rfl := si h
 exact ⟨rfl, _, rfl, (en [0, 3] ⟨f44, d45.self, rfl, rfl⟩ (.bD ⟨.i, .i, .s, .i, (.od (by first | rfl | exact d45.len | exact d45.len.symm)), ⟨⟩⟩) ⟨(ob rfl ⟨.s, .i, .b, ⟨⟩⟩), (lv d45), ⟨⟩⟩)⟩
 refine .d ⟨rfl, ⟨rfl, ⟨rfl, _, fun _ => [.str v8.fS, .int .i64 v8.dy, .bool true], rfl, ar rfl, (.d ⟨rfl, _, fun _ => [.int .i64 0, .int .i64 0, .str [], .int .i64 0, .aq], rfl, ar rfl, ?_⟩)⟩⟩⟩
 exact agr
 intro _ YO a0 a1 r h g1000
 refine dx Tryz.func175 ?_
 refine .d (.d ?_)
 obtain ⟨⟨v46, J9⟩, IC, h⟩ := bd h
 refine ko (mX (g1000 := g1000) IC) [0] ⟨rfl, ⟨⟩⟩ (.int .i64 v46) [.row g1000 3 1 172 (fun _ => J9.lit), .row 0 5 1 97 (fun _ => [.int .i64 0, .int .i64 0, .str [], .int .i64 0, .aq])] (.d ?_)
 obtain ⟨⟨v49, vz⟩, NW, h⟩ := bd h
 refine ko (jV (g1000 := g1000) NW) [0] ⟨rfl, ⟨⟩⟩ (.str v49) [.row g1000 3 1 172 (fun _ => vz.lit), .row 0 5 1 97 (fun _ => [.int .i64 0, .int .i64 0, .str [], .int .i64 0, .aq])] ?_
 obtain ⟨⟨bT, v53⟩, Ff, h⟩ := bd h
 refine bJ (vM Ff) ?_
 obtain ⟨o56, acf, acg⟩ := bd h
 replace h := acf
 refine .cut (fun σ η => ∃ Xg, Xg = o56 ∧ σ = [(0, .aG 0 g1000 0 0), (1, .int .i64 a1), (4, .aG 1 0 0 0), (5, .int .i64 v46), (6, .int .i64 bT)] ∧ η = [.row g1000 3 1 172 (fun _ => [.str vz.fS, .int .i64 vz.dy, .bool Xg]), .row 0 5 1 97 (fun _ => [.int .i64 0, .int .i64 0, .str [], .int .i64 0, .own 2 0 0 0]), .row 0 8 0 197 (fun _ => [])]) ?_ ?_
 refine .d (hB h (fun Bj h => ?_) (fun Bj h => ?_))
 exact .t (.t (.t ⟨rfl, ⟨rfl, ⟨rfl, _, fun _ => [.str vz.fS, .int .i64 vz.dy, .bool true], rfl, ar rfl, (ct ⟨_, si h, rfl, rfl⟩ (tk [0, 1, 4] ⟨.p, .i, .p, .i, .i, ⟨⟩⟩ ⟨(nA rfl), (nb rfl ⟨.i, .i, .s, .i, .g, ⟨⟩⟩), gh, ⟨⟩⟩))⟩⟩⟩))
 refine .f (.f (sD h (fun Ix h => ?_) (fun Ix h => ?_)))
 exact ⟨rfl, ⟨rfl, ⟨rfl, _, fun _ => [.str vz.fS, .int .i64 vz.dy, .bool true], rfl, ar rfl, (ct ⟨_, si h, rfl, rfl⟩ (tk [0, 1, 4] ⟨.p, .i, .p, .i, .i, ⟨⟩⟩ ⟨(nA rfl), (nb rfl ⟨.i, .i, .s, .i, .g, ⟨⟩⟩), gh, ⟨⟩⟩))⟩⟩⟩
 exact ct ⟨_, si h, rfl, rfl⟩ (tk [0, 1, 4] ⟨.p, .i, .p, .i, .i, ⟨⟩⟩ ⟨(nA rfl), (nb rfl ⟨.i, .i, .s, .i, .g, ⟨⟩⟩), gh, ⟨⟩⟩)
 rintro _ _ ⟨Xg, rfl, rfl, rfl⟩
 replace h := acg
 refine .d ⟨rfl, _, fun _ => [.int .i64 4, .int .i64 0, .str [], .int .i64 bT, .aq], rfl, ar rfl, ?_⟩
 obtain ⟨YM, ach, YP⟩ := bd h
 replace h := ach
 refine .cut (fun σ η => ∃ Xh, ∃ Xi, ∃ Vn, ∃ Lo, ∃ f65 : Nat → List PV, DR ae.D Lo.length f65 Lo ∧ .inl (Xh, Xi, Vn, Lo) = YM ∧ σ = [(0, .aG 0 g1000 0 0), (4, .aG 1 0 0 0), (8, .aG 3 0 0 0)] ∧ η = [.row g1000 3 1 172 (fun _ => [.str Xh, .int .i64 Xi, .bool Vn]), .row 0 5 1 97 (fun _ => [.int .i64 0, .int .i64 0, .str [], .int .i64 0, .own 2 0 0 0]), .row 0 8 0 197 (fun _ => []), .row 0 5 1 97 (fun _ => [.int .i64 4, .int .i64 0, .str [], .int .i64 bT, .own 4 0 0 Lo.length]), .row 0 8 Lo.length 197 f65]) ?_ ?_
 refine .d ?_
 have YQ := YO _ _ _ _ _ _ _ _ _ h
 refine le (oH (motive := fun YR YS YT r8 tM sG oe sc YU => ∀ f74 : Nat → List PV, DR ae.D oe.length f74 oe → a1 = YR → v46 = YS → bT = YT → YM = YU → aB _ _ [(0, .aG 0 g1000 0 0), (1, .int .i64 a1), (4, .aG 1 0 0 0), (5, .int .i64 v46), (8, .aG 3 0 0 0), (9, .int .i64 sc)] [.row g1000 3 1 172 (fun _ => [.str r8, .int .i64 tM, .bool sG]), .row 0 5 1 97 (fun _ => [.int .i64 0, .int .i64 0, .str [], .int .i64 0, .own 2 0 0 0]), .row 0 8 0 197 (fun _ => []), .row 0 5 1 97 (fun _ => [.int .i64 4, .int .i64 0, .str [], .int .i64 bT, .own 4 0 0 oe.length]), .row 0 8 oe.length 197 f74]) ?_ a1 v46 bT vz.fS vz.dy Xg ([] : List ae) 0 YM YQ (fun _ => []) (DR.nil (D := ae.D)) rfl rfl rfl rfl) (tk [0, 1, 2, 3, 8] ⟨.p, .i, .p, .i, .p, .i, ⟨⟩⟩ ⟨(nA rfl), (nb rfl ⟨.i, .i, .s, .i, (.od ahB), ⟨⟩⟩), (lv (DR.nil (D := ae.D))), (nb rfl ⟨.i, .i, .s, .i, .g, ⟨⟩⟩), gh, ⟨⟩⟩)
 intro _ YV _ _ YR YS YT r8 tM sG oe sc YU h Vp f74 d75 QQ QR QS YW
 subst QQ
 subst QR
 subst QS
 subst YW
 refine aB.round (.d (.d (sD h (fun aci h => ?_) (fun aci h => ?_))))
 refine .t ⟨rfl, (.t ⟨rfl, (.t ⟨rfl, _, rfl, (.t (.t (hB h (fun Vq h => ?_) (fun Vq h => ?_))))⟩)⟩)⟩
 refine .d (.d ?_)
 obtain ⟨⟨Bi, G2⟩, acj, h⟩ := bd h
 refine tR (YV _ _ _ acj _) [0] ⟨rfl, ⟨⟩⟩ ?_
 rintro _ _ ⟨f86, d87, rfl, rfl⟩
 refine ⟨.agg [.int .i64 Bi.aF, .int .i64 Bi.aP, .str Bi.aQ, .int .i64 Bi.aO, .own 5 0 0 Bi.af.length], [.row g1000 3 1 172 (fun _ => G2.lit), .row 0 5 1 97 (fun _ => [.int .i64 0, .int .i64 0, .str [], .int .i64 0, .own 2 0 0 0]), .row 0 8 0 197 (fun _ => []), .row 0 5 1 97 (fun _ => [.int .i64 4, .int .i64 0, .str [], .int .i64 bT, .own 4 0 0 oe.length]), .row 0 8 oe.length 197 f74, .row 0 8 Bi.af.length 197 f86], rfl, (by simp only [lN, eM, aec, aep, List.drop, As, adU, EB, red d87]; rfl), ?_⟩
 obtain ⟨⟨pQ, Xj⟩, ack, h⟩ := bd h
 refine Qc (I0 ack) ⟨.bD ⟨.i, .i, .s, .i, (.rd d87), ⟨⟩⟩, ⟨⟩⟩ ⟨rfl, _, fun _ => [.bool pQ.df, .int .i64 pQ.aP, .str pQ.aQ], rfl, ar rfl, (.d (.d (hB h (fun Ul h => ?_) (fun Ul h => ?_))))⟩
 refine .d ⟨rfl, ⟨rfl, ⟨rfl, _, fun _ => [.str G2.fS, .int .i64 G2.dy, .bool true], rfl, ar rfl, (.d ⟨rfl, _, rfl, ⟨rfl, _, fun _ => [.int .i64 4, .int .i64 0, .str [], .int .i64 bT, .own 4 0 0 oe.length], rfl, ar rfl, ?_⟩⟩)⟩⟩⟩
 obtain rfl := si h
 replace h := YP
 obtain rfl := si h
 exact ⟨rfl, _, rfl, (en [0, 4] ⟨f74, d75.self, rfl, rfl⟩ (.bD ⟨.i, .i, .s, .i, (.od ahY), ⟨⟩⟩) ⟨(ob rfl ⟨.s, .i, .b, ⟨⟩⟩), (lv d75 d75.len d75.len), ⟨⟩⟩)⟩
 refine .d ?_
 obtain ⟨⟨kd, v93⟩, acm, h⟩ := bd h
 refine tR (YV _ _ _ acm _) [0] ⟨rfl, ⟨⟩⟩ ?_
 rintro _ _ ⟨f95, d96, rfl, rfl⟩
 refine ⟨.agg [.int .i64 kd.aF, .int .i64 kd.aP, .str kd.aQ, .int .i64 kd.aO, .own 7 0 0 kd.af.length], [.row g1000 3 1 172 (fun _ => v93.lit), .row 0 5 1 97 (fun _ => [.int .i64 0, .int .i64 0, .str [], .int .i64 0, .own 2 0 0 0]), .row 0 8 0 197 (fun _ => []), .row 0 5 1 97 (fun _ => [.int .i64 4, .int .i64 0, .str [], .int .i64 bT, .own 4 0 0 oe.length]), .row 0 8 oe.length 197 f74, .row 0 8 Bi.af.length 197 f86, .row 0 3 1 195 (fun _ => pQ.lit), .row 0 8 kd.af.length 197 f95], rfl, (by simp only [lN, eM, aec, aep, List.drop, As, adU, EB, red d96]; rfl), ⟨rfl, _, fun _ => [.int .i64 kd.aF, .int .i64 kd.aP, .str kd.aQ, .int .i64 kd.aO, .own 7 0 0 kd.af.length], rfl, ar rfl, ⟨rfl, ⟨rfl, _, rfl, ⟨rfl, _, rfl, ⟨rfl, _, rfl, ⟨fun _ => [.bool pQ.df, .int .i64 pQ.aP, .str pQ.aQ, .int .i64 kd.aF, .int .i64 kd.aP, .str kd.aQ, .int .i64 kd.aO, .own 7 0 0 kd.af.length], xn, (bk h fun Mn G4 h => ⟨rfl, rfl, (fun _ _ => rfl), DR.YX d75 G4, Mn.length, bx f74 oe.length [.bool pQ.df, .int .i64 pQ.aP, .str pQ.aQ, .int .i64 kd.aF, .int .i64 kd.aP, .str kd.aQ, .int .i64 kd.aO, .own 7 0 0 kd.af.length], DR.ln d75 G4, xo (DR.ln d75 G4) ⟨.same _, .same _, .same _, .same _, .same _, .same _, .same _, .same _, trivial⟩, ⟨rfl, ⟨rfl, _, fun _ => [.int .i64 4, .int .i64 0, .str [], .int .i64 bT, .own 4 (0 + 1) 0 Mn.length], rfl, ar rfl, (.ab 4 oe.length 7 7 (fun Sw => [.row g1000 3 1 172 (fun _ => v93.lit), .row 0 5 1 97 (fun _ => [.int .i64 0, .int .i64 0, .str [], .int .i64 0, .own 2 0 0 0]), .row 0 8 0 197 (fun _ => []), .row 0 5 1 97 (fun _ => [.int .i64 4, .int .i64 0, .str [], .int .i64 bT, .own 4 (0 + 1) 0 Mn.length]), .row (0 + 1) 8 Mn.length 197 (bx f74 oe.length [.bool pQ.df, .int .i64 pQ.aP, .str pQ.aQ, .int .i64 kd.aF, .int .i64 kd.aP, .str kd.aQ, .int .i64 kd.aO, .bf 8 kd.af.length 197 f95 Sw]), .row 0 8 Bi.af.length 197 f86, .row 0 3 1 195 (fun _ => pQ.lit), .dead, .row 0 5 1 97 (fun _ => [.int .i64 kd.aF, .int .i64 kd.aP, .str kd.aQ, .int .i64 kd.aO, .own 7 0 0 kd.af.length]), .row 0 8 1 197 (fun _ => [.bool pQ.df, .int .i64 pQ.aP, .str pQ.aQ, .int .i64 kd.aF, .int .i64 kd.aP, .str kd.aQ, .int .i64 kd.aO, .own 7 0 0 kd.af.length])]) (fun Sw => tS [.bool pQ.df, .int .i64 pQ.aP, .str pQ.aQ, .int .i64 kd.aF, .int .i64 kd.aP, .str kd.aQ, .int .i64 kd.aO, .own 7 0 0 kd.af.length] [.bool pQ.df, .int .i64 pQ.aP, .str pQ.aQ, .int .i64 kd.aF, .int .i64 kd.aP, .str kd.aQ, .int .i64 kd.aO, .bf 8 kd.af.length 197 f95 Sw] (bx f74 oe.length [.bool pQ.df, .int .i64 pQ.aP, .str pQ.aQ, .int .i64 kd.aF, .int .i64 kd.aP, .str kd.aQ, .int .i64 kd.aO, .bf 8 kd.af.length 197 f95 Sw]) (DR.lq d75 G4) aT aT eo (d96).po rfl rfl rfl rfl ahx rfl) fun Sw => ?_)⟩⟩⟩)⟩⟩⟩⟩⟩⟩⟩
 have d100 : DR ae.D Mn.length (bx f74 oe.length [.bool pQ.df, .int .i64 pQ.aP, .str pQ.aQ, .int .i64 kd.aF, .int .i64 kd.aP, .str kd.aQ, .int .i64 kd.aO, .bf 8 kd.af.length 197 f95 Sw]) Mn := DR.N2 d75 G4 (ae.Ad (x := (ae.mk pQ kd)) d96 : ae.D [.bool pQ.df, .int .i64 pQ.aP, .str pQ.aQ, .int .i64 kd.aF, .int .i64 kd.aP, .str kd.aQ, .int .i64 kd.aO, .bf 8 kd.af.length 197 f95 Sw] (ae.mk pQ kd))
 exact lg (Vp _ _ _ _ _ _ _ _ _ h (bx f74 oe.length [.bool pQ.df, .int .i64 pQ.aP, .str pQ.aQ, .int .i64 kd.aF, .int .i64 kd.aP, .str kd.aQ, .int .i64 kd.aO, .bf 8 kd.af.length 197 f95 Sw]) d100 rfl rfl rfl rfl) (tk [0, 1, 2, 3, 4] ⟨.p, .i, .p, .i, .p, .i, ⟨⟩⟩ ⟨(nA rfl), (nb rfl ⟨.i, .i, .s, .i, (.od ahB), ⟨⟩⟩), (lv (DR.nil (D := ae.D))), (nb rfl ⟨.i, .i, .s, .i, (.od (by first | rfl | exact d100.len | exact d100.len.symm)), ⟨⟩⟩), (lv d100), ⟨⟩⟩)
 exact ct ⟨_, _, _, _, f74, d75, si h, rfl, rfl⟩ (tk [0, 1, 2, 3, 4] ⟨.p, .p, .p, ⟨⟩⟩ ⟨(nA rfl), (nb rfl ⟨.i, .i, .s, .i, (.od ahB), ⟨⟩⟩), (lv (DR.nil (D := ae.D))), (nb rfl ⟨.i, .i, .s, .i, (.od ahY), ⟨⟩⟩), (lv d75), ⟨⟩⟩)
 exact .f (.f (.f (.f (.f (.f (ct ⟨_, _, _, _, f74, d75, si h, rfl, rfl⟩ (tk [0, 1, 2, 3, 4] ⟨.p, .p, .p, ⟨⟩⟩ ⟨(nA rfl), (nb rfl ⟨.i, .i, .s, .i, (.od ahB), ⟨⟩⟩), (lv (DR.nil (D := ae.D))), (nb rfl ⟨.i, .i, .s, .i, (.od ahY), ⟨⟩⟩), (lv d75), ⟨⟩⟩)))))))
 rintro _ _ ⟨Xh, Xi, Vn, Lo, f65, d66, rfl, rfl, rfl⟩
 replace h := YP
 refine .d (.d ⟨rfl, ⟨rfl, ⟨rfl, _, rfl, (hB h (fun N3 h => ?_) (fun N3 h => ?_))⟩⟩⟩)
 refine bk h fun v109 YY h => (ko (iX (g1000 := g1000) YY) [0] ⟨rfl, ⟨⟩⟩ (.fu []) [.row g1000 3 1 172 (fun _ => v109.lit), .row 0 5 1 97 (fun _ => [.int .i64 0, .int .i64 0, .str [], .int .i64 0, .own 2 0 0 0]), .row 0 8 0 197 (fun _ => []), .row 0 5 1 97 (fun _ => [.int .i64 4, .int .i64 0, .str [], .int .i64 bT, .own 4 0 0 Lo.length]), .row 0 8 Lo.length 197 f65] (.d ⟨rfl, _, rfl, ⟨rfl, _, fun _ => [.int .i64 4, .int .i64 0, .str [], .int .i64 bT, .own 4 0 0 Lo.length], rfl, ar rfl, ?_⟩⟩))
 obtain rfl := si h
 exact ⟨rfl, _, rfl, (en [0, 4] ⟨f65, d66.self, rfl, rfl⟩ (.bD ⟨.i, .i, .s, .i, (.od (by first | rfl | exact d66.len | exact d66.len.symm)), ⟨⟩⟩) ⟨(ob rfl ⟨.s, .i, .b, ⟨⟩⟩), (lv d66 d66.len d66.len), ⟨⟩⟩)⟩
 refine .d ⟨rfl, _, rfl, ⟨rfl, _, fun _ => [.int .i64 4, .int .i64 0, .str [], .int .i64 bT, .own 4 0 0 Lo.length], rfl, ar rfl, ?_⟩⟩
 obtain rfl := si h
 exact ⟨rfl, _, rfl, (en [0, 4] ⟨f65, d66.self, rfl, rfl⟩ (.bD ⟨.i, .i, .s, .i, (.od (by first | rfl | exact d66.len | exact d66.len.symm)), ⟨⟩⟩) ⟨(ob rfl ⟨.s, .i, .b, ⟨⟩⟩), (lv d66 d66.len d66.len), ⟨⟩⟩)⟩
 intro F0 F1 CS CT a1 v46 bT r8 tM sG oe sc o h
 exact .mk F0 CS F1 CT a1 v46 bT r8 tM sG oe sc o h
theorem sH {a0 : ao} {a1 : Int} {r : ah × ao} {g1000 : Nat} (h : bg a0 a1 = some r) : ACall Tryz.prog 125 [.aG 0 g1000 0 0, .int .i64 a1] [.row g1000 3 1 172 (fun _ => a0.lit)] (fun res h => ∃ F1 : Nat → List PV, DR ae.D r.1.af.length F1 r.1.af ∧ res = .agg [.int .i64 r.1.aF, .int .i64 r.1.aP, .str r.1.aQ, .int .i64 r.1.aO, .own 1 0 0 r.1.af.length] ∧ h = [.row g1000 3 1 172 (fun _ => r.2.lit), .row 0 8 r.1.af.length 197 F1]) := re.1 a0 a1 r h g1000
def er (a0 : aU) : Option (ah × Bool) :=
 bg (ao.mk a0 0 false) 0 >>= fun (v1, v2) =>
 (if v2.db = true then
 some ((ah.mk 0 0 [] 0 []), false)
 else
 (if v2.dy = (a0.length : Int) then
 kr v1 >>= fun (v8, v9) =>
 (if v9 = true then
 (if v8 = a0 then
 some (v1, true)
 else
 some ((ah.mk 0 0 [] 0 []), false))
 else
 some ((ah.mk 0 0 [] 0 []), false))
 else
 some ((ah.mk 0 0 [] 0 []), false)))
theorem yM {a0 : aU} {r : ah × Bool} (h : er a0 = some r) : ACall Tryz.prog 80 [.str a0] [] (fun res h => ∃ F0 : Nat → List PV, DR ae.D r.1.af.length F0 r.1.af ∧ res = .fu [.agg [.int .i64 r.1.aF, .int .i64 r.1.aP, .str r.1.aQ, .int .i64 r.1.aO, .own 0 0 0 r.1.af.length], .bool r.2] ∧ h = [.row 0 8 r.1.af.length 197 F0]) := by
 refine dx Tryz.func80 ?_
 unfold er at h
 refine .d (.d ⟨rfl, _, fun _ => [.str a0, .int .i64 0, .bool false], rfl, ar rfl, (.d ?_)⟩)
 obtain ⟨⟨v1, v2⟩, qs, h⟩ := bd h
 refine tR (sH (g1000 := 0) qs) [1] ⟨rfl, ⟨⟩⟩ ?_
 rintro _ _ ⟨f4, d5, rfl, rfl⟩
 refine ⟨.agg [.int .i64 v1.aF, .int .i64 v1.aP, .str v1.aQ, .int .i64 v1.aO, .own 2 0 0 v1.af.length], [.row 0 5 1 97 (fun _ => [.int .i64 0, .int .i64 0, .str [], .int .i64 0, .aq]), .row 0 3 1 172 (fun _ => v2.lit), .row 0 8 v1.af.length 197 f4], rfl, (by simp only [lN, eM, aec, aep, List.drop, As, adU, EB, red d5]; rfl), ⟨rfl, _, fun _ => [.int .i64 v1.aF, .int .i64 v1.aP, .str v1.aQ, .int .i64 v1.aO, .own 2 0 0 v1.af.length], rfl, ar rfl, (.d (.d ⟨rfl, ⟨rfl, _, rfl, (sV h (fun mJ h => ?_) (fun mJ h => ?_))⟩⟩))⟩⟩
 refine .t (.t (.t (.t (.t (.t (.d (bJ (kc) ⟨rfl, _, fun _ => [.int .i64 0, .int .i64 0, .str [], .int .i64 0, .aq], rfl, ar rfl, ?_⟩)))))))
 exact agw
 refine ⟨rfl, (.f ⟨rfl, _, rfl, (.f (.f (.f (.f (sN h (fun nr h => ?_) (fun nr h => ?_))))))⟩)⟩
 refine .d (bJ (kc) ⟨rfl, _, fun _ => [.int .i64 0, .int .i64 0, .str [], .int .i64 0, .aq], rfl, ar rfl, ?_⟩)
 exact agw
 refine .d ⟨rfl, _, rfl, ?_⟩
 obtain ⟨⟨v8, v9⟩, Iu, h⟩ := bd h
 refine Qc (BC Iu) ⟨.bD ⟨.i, .i, .s, .i, (.rd d5), ⟨⟩⟩, ⟨⟩⟩ (.d (.d (hB h (fun jt h => ?_) (fun jt h => ?_))))
 refine .t (.t (.t (.t (.d (bJ (kc) ⟨rfl, _, fun _ => [.int .i64 0, .int .i64 0, .str [], .int .i64 0, .aq], rfl, ar rfl, ?_⟩)))))
 exact agw
 refine .f (.f (.f (nq h (fun me h => ?_) (fun me h => ?_))))
 refine .d (bJ (kc) ⟨rfl, _, fun _ => [.int .i64 0, .int .i64 0, .str [], .int .i64 0, .aq], rfl, ar rfl, ?_⟩)
 exact agw
 refine .d ⟨rfl, _, rfl, ⟨rfl, _, fun _ => [.int .i64 v1.aF, .int .i64 v1.aP, .str v1.aQ, .int .i64 v1.aO, .own 2 0 0 v1.af.length], rfl, ar rfl, ?_⟩⟩
 obtain rfl := si h
 exact ⟨rfl, _, rfl, (en [2] ⟨f4, d5.self, rfl, rfl⟩ (.bq ⟨.bD ⟨.i, .i, .s, .i, (.od (by first | rfl | exact d5.len | exact d5.len.symm)), ⟨⟩⟩, .b, ⟨⟩⟩) ⟨(lv d5), ⟨⟩⟩)⟩
end Go.Am
