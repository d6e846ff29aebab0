/- Texts of the proof, joined and shortened. -/
import Derived.Test.YtiigfbapjeefbaaGreatDoorPk6
set_option linter.unusedVariables false
set_option linter.unusedSimpArgs false
set_option maxRecDepth 100000
namespace Go.Am
open Go Go.RowKit Go.Proofs
def ee (a1 : List ar) (l2 : List UInt8) (y3 : Int) : Option (av) :=
 (if y3 < (a1.length : Int) then
 idx a1 y3 >>= fun x7 =>
 eD (aF.mk () l2) x7 >>= fun (v9, v10, v11) =>
 ee a1 v11.aq (aU (y3 + 1))
 else
 some (av.mk (aF.mk () l2)))
partial_fixpoint
def ao (a0 : av) (a1 : List ar) : Option (av) :=
 ee a1 a0.af.aq 0
theorem aw {a0 : av} {a1 : List ar} {r : av} {g1000 : Nat} {g1001 : Nat} {g1002 : Nat} (h : ao a0 a1 = some r) : ACall Tryz.prog 48 [.aL 0 g1000 0 0, .own 2 g1002 0 a1.length] [.row g1000 2 1 51 (fun _ => [aM g1001 0 g1000, .own 1 g1001 0 a0.af.aq.length]), .row g1001 1 a0.af.aq.length 5 (row cB a0.af.aq), .row g1002 1 a1.length 9 (row cS a1)] (fun res h => ∃ G1 : Nat, ∃ G2 : Nat, res = .aV [] ∧ h = [.row g1000 2 1 51 (fun _ => [aM G1 0 g1000, .own 1 G1 0 r.af.aq.length]), .row G1 1 r.af.aq.length 5 (row cB r.af.aq), .row G2 1 a1.length 9 (row cS a1)]) := by
 refine gd Tryz.func48 ?_
 unfold ao at h
 refine .d ⟨rfl, ?_⟩
 refine le (ee.partial_correctness a1 (motive := fun l2 y3 o14 => ∀ g1 : Nat, r = o14 → aG _ _ [(0, .aL 0 g1000 0 0), (6, .own 2 g1002 0 a1.length), (7, .int .i64 (a1.length : Int)), (8, .int .i64 y3)] [.row g1000 2 1 51 (fun _ => [aM g1 0 g1000, .own 1 g1 0 l2.length]), .row g1 1 l2.length 5 (row cB l2), .row g1002 1 a1.length 9 (row cS a1)]) ?_ a0.af.aq 0 r h g1001 rfl) (tk [0, 1, 2] ⟨.p, .o, .i, .i, ⟨⟩⟩ ⟨(ob rfl ⟨.aM, .o, ⟨⟩⟩), od, od, ⟨⟩⟩)
 intro F5 ih4 l2 y3 o14 h g1 ao9
 subst ao9
 refine aG.round (.d (.d (sD h (fun xF h => ?_) (fun xF h => ?_))))
 refine .d (.d (bk h fun x7 hx8 h => ⟨rfl, aA hx8, _, are _, ⟨rfl, _, ((ax hx8).trans rfl), ⟨rfl, ⟨rfl, ?_⟩⟩⟩⟩))
 obtain ⟨⟨v9, v10, v11⟩, CQ, h⟩ := bd h
 exact cH (k7 (g1000 := g1000) (g1001 := g1) CQ) [0, 1] ⟨cw, ov, ⟨⟩⟩ (fun g13 => .aV [.int .i64 v9, .fP]) (fun g13 => [.row g1000 2 1 51 (fun _ => [aM g13 0 g1000, .own 1 g13 0 v11.aq.length]), .row g13 1 v11.aq.length 5 (row cB v11.aq), .row g1002 1 a1.length 9 (row cS a1)]) fun g13 => (lg (ih4 _ _ _ h g13 rfl) (tk [0, 1, 2] ⟨.p, .o, .i, .i, ⟨⟩⟩ ⟨(ob rfl ⟨.aM, .o, ⟨⟩⟩), od, od, ⟨⟩⟩))
 obtain rfl := si h
 exact en [0, 1, 2] ⟨g1, g1002, rfl, rfl⟩ (.br ⟨⟩) ⟨(ob rfl ⟨.aM, .o, ⟨⟩⟩), od, od, ⟨⟩⟩
def bL (a1 : List ae) (a2 : Int) (uo : List UInt8) (b12 : Bool) (Pb : Int) : Option ((List UInt8)) :=
 (if Pb < (a1.length : Int) then
 idx a1 Pb >>= fun nK =>
 (if nK.ai = a2 then
 (
 (if b12 = true then
 some uo
 else
 ao (av.mk (aF.mk () uo)) ([[44, 32]] : List ar) >>= fun G9 =>
 some G9.af.aq)
 : Option ((List UInt8))) >>= fun T4 =>
 (if nK.aD = 1 then
 ao (av.mk (aF.mk () T4)) ([[38]] : List ar) >>= fun v31 =>
 ao v31 ([[36], nK.aj] : List ar) >>= fun zY =>
 bL a1 a2 zY.af.aq false (aU (Pb + 1))
 else
 ao (av.mk (aF.mk () T4)) ([[36], nK.aj] : List ar) >>= fun v39 =>
 bL a1 a2 v39.af.aq false (aU (Pb + 1)))
 else
 bL a1 a2 uo b12 (aU (Pb + 1)))
 else
 some uo)
partial_fixpoint
def dh (a0 : av) (a1 : List ae) (a2 : Int) : Option (av) :=
 ao a0 ([[40]] : List ar) >>= fun v1 =>
 (
 bL a1 a2 v1.af.aq true 0
 : Option ((List UInt8))) >>= fun l6 =>
 ao (av.mk (aF.mk () l6)) ([[41]] : List ar) >>= fun KX =>
 some KX
theorem jJ {a0 : av} {a1 : List ae} {a2 : Int} {r : av} {g1000 : Nat} {g1001 : Nat} (h : dh a0 a1 a2 = some r) : ACall Tryz.prog 159 [.aL 0 g1000 0 0, sl 4 ae.cells a1, .int .i64 a2] [.row g1000 2 1 51 (fun _ => [aM g1001 0 g1000, .own 1 g1001 0 a0.af.aq.length]), .row g1001 1 a0.af.aq.length 5 (row cB a0.af.aq)] (fun res h => ∃ G1 : Nat, res = .aV [] ∧ h = [.row g1000 2 1 51 (fun _ => [aM G1 0 g1000, .own 1 G1 0 r.af.aq.length]), .row G1 1 r.af.aq.length 5 (row cB r.af.aq)]) := by
 refine gd Tryz.func159 ?_
 unfold dh at h
 refine .d ⟨row cS ([[40]] : List ar), aC cS ([[40]] : List ar) rfl (aB rfl), (bk h fun v1 lz h => (cm (aw (g1000 := g1000) (g1001 := g1001) (g1002 := 0) lz) [0, 1, 2] ⟨cw, ov, ov, ⟨⟩⟩ ?_))⟩
 rintro _ _ ⟨g3, g4, rfl, rfl⟩
 refine ⟨.aV [], [.row g1000 2 1 51 (fun _ => [aM g3 0 g1000, .own 1 g3 0 v1.af.aq.length]), .row g3 1 v1.af.aq.length 5 (row cB v1.af.aq), .row g4 1 ([[40]] : List ar).length 9 (row cS ([[40]] : List ar))], rfl, atv, (.d ?_)⟩
 obtain ⟨o7, ho8, hk9⟩ := bd h
 replace h := ho8
 refine .cut (fun σ η => ∃ l6, ∃ g5 : Nat, l6 = o7 ∧ σ = [(0, .aL 0 g1000 0 0)] ∧ η = [.row g1000 2 1 51 (fun _ => [aM g5 0 g1000, .own 1 g5 0 l6.length]), .row g5 1 l6.length 5 (row cB l6)]) ?_ ?_
 refine .d ?_
 refine le (bL.partial_correctness a1 a2 (motive := fun uo b12 Pb o43 => ∀ g10 : Nat, o7 = o43 → aG _ _ [(0, .aL 0 g1000 0 0), (2, .int .i64 a2), (6, .bool b12), (12, sl 4 ae.cells a1), (13, .int .i64 (a1.length : Int)), (14, .int .i64 Pb)] [.row g1000 2 1 51 (fun _ => [aM g10 0 g1000, .own 1 g10 0 uo.length]), .row g10 1 uo.length 5 (row cB uo)]) ?_ v1.af.aq true 0 o7 h g3 rfl) (tk [0, 1] ⟨.p, .i, .b, .l, .i, .i, ⟨⟩⟩ ⟨(ob rfl ⟨.aM, .o, ⟨⟩⟩), od, ⟨⟩⟩)
 intro F15 ZE uo b12 Pb o43 h g10 apa
 subst apa
 refine aG.round (.d (.d (sD h (fun pT h => ?_) (fun pT h => ?_))))
 refine .d (.d (bk h fun nK pZ h => ⟨aA pZ, _, (ax pZ).trans (ae.au nK), ⟨rfl, _, fun _ => [.int .i64 nK.ai, .int .i64 nK.aD, .str nK.aj, sl 4 ae.cells nK.ah], rfl, bX rfl, (.d (.d ⟨rfl, ⟨rfl, _, rfl, (sN h (fun zf h => ?_) (fun zf h => ?_))⟩⟩))⟩⟩))
 exact lg (ZE _ _ _ _ h g10 rfl) (tk [0, 1] ⟨.p, .i, .b, .l, .i, .i, ⟨⟩⟩ ⟨(ob rfl ⟨.aM, .o, ⟨⟩⟩), od, ⟨⟩⟩)
 obtain ⟨ZF, apb, apc⟩ := bd h
 replace h := apb
 refine .cut (fun σ η => ∃ T4, ∃ g20 : Nat, T4 = ZF ∧ σ = [(0, .aL 0 g1000 0 0), (2, .int .i64 a2), (8, .aL 2 0 0 0), (12, sl 4 ae.cells a1), (13, .int .i64 (a1.length : Int)), (14, .int .i64 Pb)] ∧ η = [.row g1000 2 1 51 (fun _ => [aM g20 0 g1000, .own 1 g20 0 T4.length]), .row g20 1 T4.length 5 (row cB T4), .row 0 4 1 29 (fun _ => nK.lit)]) ?_ ?_
 refine .d (l7 h (fun Fx h => ?_) (fun Fx h => ?_))
 refine ⟨row cS ([[44, 32]] : List ar), aC cS ([[44, 32]] : List ar) rfl (aB rfl), (bk h fun G9 ZG h => (cm (aw (g1000 := g1000) (g1001 := g10) (g1002 := 0) ZG) [0, 1, 3] ⟨cw, ov, ov, ⟨⟩⟩ ?_))⟩
 rintro _ _ ⟨g28, g29, rfl, rfl⟩
 exact ⟨.aV [], [.row g1000 2 1 51 (fun _ => [aM g28 0 g1000, .own 1 g28 0 G9.af.aq.length]), .row g28 1 G9.af.aq.length 5 (row cB G9.af.aq), .row 0 4 1 29 (fun _ => nK.lit), .row g29 1 ([[44, 32]] : List ar).length 9 (row cS ([[44, 32]] : List ar))], rfl, atv, (ct ⟨_, g28, si h, rfl, rfl⟩ (tk [0, 1, 2] ⟨.p, .i, .p, .l, .i, .i, ⟨⟩⟩ ⟨(ob rfl ⟨.aM, .o, ⟨⟩⟩), od, (cF rfl), ⟨⟩⟩))⟩
 exact ct ⟨_, g10, si h, rfl, rfl⟩ (tk [0, 1, 2] ⟨.p, .i, .p, .l, .i, .i, ⟨⟩⟩ ⟨(ob rfl ⟨.aM, .o, ⟨⟩⟩), od, (cF rfl), ⟨⟩⟩)
 rintro _ _ ⟨T4, g20, rfl, rfl, rfl⟩
 replace h := apc
 refine .d (.d (.d ⟨rfl, ⟨rfl, _, rfl, (sE h (fun ZH h => ?_) (fun ZH h => ?_))⟩⟩))
 refine ⟨row cS ([[38]] : List ar), aC cS ([[38]] : List ar) rfl (aB rfl), (bk h fun v31 apd h => (cm (aw (g1000 := g1000) (g1001 := g20) (g1002 := 0) apd) [0, 1, 3] ⟨cw, ov, ov, ⟨⟩⟩ ?_))⟩
 rintro _ _ ⟨g33, g34, rfl, rfl⟩
 refine ⟨.aV [], [.row g1000 2 1 51 (fun _ => [aM g33 0 g1000, .own 1 g33 0 v31.af.aq.length]), .row g33 1 v31.af.aq.length 5 (row cB v31.af.aq), .row 0 4 1 29 (fun _ => nK.lit), .row g34 1 ([[38]] : List ar).length 9 (row cS ([[38]] : List ar))], rfl, atv, ⟨rfl, ⟨rfl, _, rfl, ⟨row cS ([[36], nK.aj] : List ar), aC cS ([[36], nK.aj] : List ar) rfl (aB rfl), (bk h fun zY Hx h => (cm (aw (g1000 := g1000) (g1001 := g33) (g1002 := 0) Hx) [0, 1, 4] ⟨cw, ov, ov, ⟨⟩⟩ ?_))⟩⟩⟩⟩
 rintro _ _ ⟨Pc, g38, rfl, rfl⟩
 exact ⟨.aV [], [.row g1000 2 1 51 (fun _ => [aM Pc 0 g1000, .own 1 Pc 0 zY.af.aq.length]), .row Pc 1 zY.af.aq.length 5 (row cB zY.af.aq), .row 0 4 1 29 (fun _ => nK.lit), .row g34 1 ([[38]] : List ar).length 9 (row cS ([[38]] : List ar)), .row g38 1 ([[36], nK.aj] : List ar).length 9 (row cS ([[36], nK.aj] : List ar))], rfl, atv, (lg (ZE _ _ _ _ h Pc rfl) (tk [0, 1] ⟨.p, .i, .b, .l, .i, .i, ⟨⟩⟩ ⟨(ob rfl ⟨.aM, .o, ⟨⟩⟩), od, ⟨⟩⟩))⟩
 refine ⟨rfl, ⟨rfl, _, rfl, ⟨row cS ([[36], nK.aj] : List ar), aC cS ([[36], nK.aj] : List ar) rfl (aB rfl), (bk h fun v39 ape h => (cm (aw (g1000 := g1000) (g1001 := g20) (g1002 := 0) ape) [0, 1, 3] ⟨cw, ov, ov, ⟨⟩⟩ ?_))⟩⟩⟩
 rintro _ _ ⟨g41, g42, rfl, rfl⟩
 exact ⟨.aV [], [.row g1000 2 1 51 (fun _ => [aM g41 0 g1000, .own 1 g41 0 v39.af.aq.length]), .row g41 1 v39.af.aq.length 5 (row cB v39.af.aq), .row 0 4 1 29 (fun _ => nK.lit), .row g42 1 ([[36], nK.aj] : List ar).length 9 (row cS ([[36], nK.aj] : List ar))], rfl, atv, (lg (ZE _ _ _ _ h g41 rfl) (tk [0, 1] ⟨.p, .i, .b, .l, .i, .i, ⟨⟩⟩ ⟨(ob rfl ⟨.aM, .o, ⟨⟩⟩), od, ⟨⟩⟩))⟩
 exact ct ⟨_, g10, si h, rfl, rfl⟩ (tk [0, 1] ⟨.p, ⟨⟩⟩ ⟨(ob rfl ⟨.aM, .o, ⟨⟩⟩), od, ⟨⟩⟩)
 rintro _ _ ⟨l6, g5, rfl, rfl, rfl⟩
 replace h := hk9
 refine ⟨row cS ([[41]] : List ar), aC cS ([[41]] : List ar) rfl (aB rfl), (bk h fun KX ZI h => (cm (aw (g1000 := g1000) (g1001 := g5) (g1002 := 0) ZI) [0, 1, 2] ⟨cw, ov, ov, ⟨⟩⟩ ?_))⟩
 rintro _ _ ⟨KY, g48, rfl, rfl⟩
 refine ⟨.aV [], [.row g1000 2 1 51 (fun _ => [aM KY 0 g1000, .own 1 KY 0 KX.af.aq.length]), .row KY 1 KX.af.aq.length 5 (row cB KX.af.aq), .row g48 1 ([[41]] : List ar).length 9 (row cS ([[41]] : List ar))], rfl, atv, ?_⟩
 obtain rfl := si h
 exact en [0, 1] ⟨KY, rfl, rfl⟩ (.br ⟨⟩) ⟨(ob rfl ⟨.aM, .o, ⟨⟩⟩), od, ⟨⟩⟩
def bG (a1 : ae) (nz : av) (Fy : Int) : Option ((List UInt8)) :=
 (if Fy < (a1.ah.length : Int) then
 idx a1.ah Fy >>= fun zg =>
 (if zg.ai = 25 then
 ao nz ([[32, 117, 115, 101, 32]] : List ar) >>= fun KZ =>
 dh KZ a1.ah 25 >>= fun K0 =>
 some K0.af.aq
 else
 bG a1 nz (aU (Fy + 1)))
 else
 some nz.af.aq)
partial_fixpoint
mutual
def aO (a0 : av) (a1 : ae) (a2 : Int) : Option (av) :=
 kQ a1 >>= fun v1 =>
 (if v1 < a2 then
 ao a0 ([[40]] : List ar) >>= fun v4 =>
 fM v4 a1 >>= fun v8 =>
 ao v8 ([[41]] : List ar) >>= fun v11 =>
 some v11
 else
 fM a0 a1 >>= fun wI =>
 some wI)
partial_fixpoint
def fM (a0 : av) (a1 : ae) : Option (av) :=
 (if a1.ai = 1 then
 jr a1.aD >>= fun yI =>
 ao a0 ([yI] : List ar) >>= fun v21 =>
 some v21
 else
 (if a1.ai = 2 then
 ic a1.aj >>= fun G9 =>
 ao a0 ([G9] : List ar) >>= fun v28 =>
 some v28
 else
 (if a1.ai = 3 then
 idx ([[110, 117, 108, 108], [102, 97, 108, 115, 101], [116, 114, 117, 101]] : List ar) a1.aD >>= fun Nq =>
 ao a0 ([Nq] : List ar) >>= fun zY =>
 some zY
 else
 (if a1.ai = 4 then
 ao a0 ([[36], a1.aj] : List ar) >>= fun v40 =>
 some v40
 else
 (if a1.ai = 5 then
 jz a0 a1 >>= fun KX =>
 some KX
 else
 (if a1.ai = 7 then
 idx a1.ah 0 >>= fun x49 =>
 aO a0 x49 12 >>= fun v51 =>
 ao v51 ([[91]] : List ar) >>= fun T5 =>
 idx a1.ah 1 >>= fun x58 =>
 aO T5 x58 1 >>= fun T6 =>
 ao T6 ([[93]] : List ar) >>= fun Jp =>
 some Jp
 else
 (if a1.ai = 8 then
 idx a1.ah 0 >>= fun x68 =>
 aO a0 x68 12 >>= fun v70 =>
 ao v70 ([[45, 62], a1.aj] : List ar) >>= fun v73 =>
 some v73
 else
 (if a1.ai = 9 then
 idx ([[], [33], [45]] : List ar) a1.aD >>= fun T7 =>
 ao a0 ([T7] : List ar) >>= fun v80 =>
 idx a1.ah 0 >>= fun x84 =>
 aO v80 x84 11 >>= fun v86 =>
 some v86
 else
 (if a1.ai = 10 then
 jN a1.aD >>= fun v90 =>
 j6 a1.aD >>= fun v92 =>
 aH [32] v92 >>= fun s94 =>
 aH s94 [32] >>= fun s96 =>
 bA a0 a1 v90 s96 (aU (v90 + 1)) >>= fun Q2 =>
 some Q2
 else
 (if a1.ai = 11 then
 bA a0 a1 5 [32, 38, 38, 32] 6 >>= fun K1 =>
 some K1
 else
 (if a1.ai = 12 then
 bA a0 a1 4 [32, 124, 124, 32] 5 >>= fun K2 =>
 some K2
 else
 (if a1.ai = 13 then
 bA a0 a1 4 [32, 63, 63, 32] 3 >>= fun K3 =>
 some K3
 else
 (if a1.ai = 14 then
 bA a0 a1 3 [32, 63, 32] 1 >>= fun K4 =>
 ao K4 ([[32, 58, 32]] : List ar) >>= fun v117 =>
 idx a1.ah 2 >>= fun ZJ =>
 aO v117 ZJ 2 >>= fun K5 =>
 some K5
 else
 (if a1.ai = 15 then
 bA a0 a1 12 [32, 61, 32] 1 >>= fun v127 =>
 some v127
 else
 (if a1.ai = 16 then
 bA a0 a1 12 [91, 93, 32, 61, 32] 1 >>= fun v131 =>
 some v131
 else
 (if a1.ai = 17 then
 idx a1.ah 0 >>= fun CR =>
 ao a0 ([[36], a1.aj, [32, 61, 32, 38, 36], CR.aj] : List ar) >>= fun K6 =>
 some K6
 else
 (
 (if a1.ai = 18 then
 some (a1.ai == 18)
 else
 some (a1.ai == 21))
 : Option (Bool)) >>= fun K7 =>
 (if K7 = true then
 ao a0 ([a1.aj] : List ar) >>= fun AQ =>
 dn AQ a1.ah >>= fun K8 =>
 some K8
 else
 (if a1.ai = 22 then
 ao a0 ([[110, 101, 119, 32], a1.aj] : List ar) >>= fun uV =>
 dn uV a1.ah >>= fun v159 =>
 some v159
 else
 (if a1.ai = 20 then
 idx a1.ah 0 >>= fun ZK =>
 aO a0 ZK 12 >>= fun uQ =>
 ao uQ ([[45, 62], a1.aj] : List ar) >>= fun v168 =>
 jL a1.ah 1 >>= fun Pd =>
 dn v168 Pd >>= fun Ab =>
 some Ab
 else
 (if a1.ai = 19 then
 idx a1.ah 0 >>= fun ZL =>
 (if ZL.ai = 8 then
 idx a1.ah 0 >>= fun qu =>
 aO a0 qu 13 >>= fun v183 =>
 jL a1.ah 1 >>= fun Pe =>
 dn v183 Pe >>= fun K9 =>
 some K9
 else
 idx a1.ah 0 >>= fun ZM =>
 aO a0 ZM 12 >>= fun v193 =>
 jL a1.ah 1 >>= fun Pf =>
 dn v193 Pf >>= fun v198 =>
 some v198)
 else
 (if a1.ai = 23 then
 ff a0 a1 >>= fun La =>
 some La
 else
 some a0)))))))))))))))))))))
partial_fixpoint
def bA (a0 : av) (a1 : ae) (a2 : Int) (a3 : ar) (a4 : Int) : Option (av) :=
 idx a1.ah 0 >>= fun ZN =>
 aO a0 ZN a2 >>= fun Av =>
 ao Av ([a3] : List ar) >>= fun v210 =>
 idx a1.ah 1 >>= fun ZO =>
 aO v210 ZO a4 >>= fun Lb =>
 some Lb
partial_fixpoint
def dn (a0 : av) (a1 : List ae) : Option (av) :=
 ao a0 ([[40]] : List ar) >>= fun FA =>
 (
 cJ a1 FA.af.aq 0
 : Option ((List UInt8))) >>= fun CS =>
 ao (av.mk (aF.mk () CS)) ([[41]] : List ar) >>= fun Lc =>
 some Lc
partial_fixpoint
def jz (a0 : av) (a1 : ae) : Option (av) :=
 ao a0 ([[91]] : List ar) >>= fun yC =>
 (
 cK a1 yC.af.aq 0
 : Option ((List UInt8))) >>= fun CT =>
 ao (av.mk (aF.mk () CT)) ([[93]] : List ar) >>= fun AR =>
 some AR
partial_fixpoint
def ff (a0 : av) (a1 : ae) : Option (av) :=
 ao a0 ([[102, 117, 110, 99, 116, 105, 111, 110, 32]] : List ar) >>= fun Ld =>
 dh Ld a1.ah 24 >>= fun nz =>
 (
 bG a1 nz 0
 : Option ((List UInt8))) >>= fun CU =>
 ao (av.mk (aF.mk () CU)) ([[32]] : List ar) >>= fun Le =>
 idx a1.ah (aU ((a1.ah.length : Int) - 1)) >>= fun ZP =>
 aQ Le ZP >>= fun Lf =>
 some Lf
partial_fixpoint
def aQ (a0 : av) (a1 : ae) : Option (av) :=
 ao a0 ([[123, 32]] : List ar) >>= fun FB =>
 (
 dj a1 FB.af.aq 0
 : Option ((List UInt8))) >>= fun CV =>
 ao (av.mk (aF.mk () CV)) ([[125]] : List ar) >>= fun Lg =>
 some Lg
partial_fixpoint
def ck (a0 : av) (a1 : ar) (a2 : ae) : Option (av) :=
 ao a0 ([a1] : List ar) >>= fun AU =>
 aO AU a2 1 >>= fun Lh =>
 ao Lh ([[59]] : List ar) >>= fun Li =>
 some Li
partial_fixpoint
def gY (a0 : av) (a1 : ae) : Option (av) :=
 (if a1.ai = 31 then
 ao a0 ([[63, 62, 10], a1.aj, [60, 63, 32]] : List ar) >>= fun Lj =>
 some Lj
 else
 (if a1.ai = 32 then
 idx a1.ah 0 >>= fun yP =>
 ck a0 [101, 99, 104, 111, 32] yP >>= fun w4 =>
 some w4
 else
 (if a1.ai = 33 then
 idx a1.ah 0 >>= fun ZQ =>
 ck a0 [] ZQ >>= fun Lk =>
 some Lk
 else
 (if a1.ai = 34 then
 ao a0 ([[105, 102, 32, 40]] : List ar) >>= fun Ll =>
 idx a1.ah 0 >>= fun ZR =>
 aO Ll ZR 1 >>= fun Lm =>
 ao Lm ([[41, 32]] : List ar) >>= fun Ln =>
 idx a1.ah 1 >>= fun ZS =>
 aQ Ln ZS >>= fun FC =>
 (if (a1.ah.length : Int) = 3 then
 ao FC ([[32, 101, 108, 115, 101, 32]] : List ar) >>= fun Lo =>
 idx a1.ah 2 >>= fun ZT =>
 aQ Lo ZT >>= fun Lp =>
 some Lp
 else
 some FC)
 else
 (if a1.ai = 35 then
 ao a0 ([[119, 104, 105, 108, 101, 32, 40]] : List ar) >>= fun Lq =>
 idx a1.ah 0 >>= fun uZ =>
 aO Lq uZ 1 >>= fun uc =>
 ao uc ([[41, 32]] : List ar) >>= fun Lr =>
 idx a1.ah 1 >>= fun ZU =>
 aQ Lr ZU >>= fun Ls =>
 some Ls
 else
 (if a1.ai = 36 then
 ao a0 ([[102, 111, 114, 101, 97, 99, 104, 32, 40]] : List ar) >>= fun Lt =>
 idx a1.ah 0 >>= fun ZV =>
 aO Lt ZV 1 >>= fun Lu =>
 idx a1.ah 1 >>= fun zh =>
 ao Lu ([[32, 97, 115, 32, 36], zh.aj] : List ar) >>= fun FD =>
 (
 (if (a1.ah.length : Int) = 4 then
 idx a1.ah 2 >>= fun CW =>
 ao FD ([[32, 61, 62, 32, 36], CW.aj] : List ar) >>= fun Lv =>
 some Lv.af.aq
 else
 some FD.af.aq)
 : Option ((List UInt8))) >>= fun CX =>
 ao (av.mk (aF.mk () CX)) ([[41, 32]] : List ar) >>= fun Lw =>
 idx a1.ah (aU ((a1.ah.length : Int) - 1)) >>= fun ZW =>
 aQ Lw ZW >>= fun Lx =>
 some Lx
 else
 (if a1.ai = 37 then
 ao a0 ([[98, 114, 101, 97, 107, 59]] : List ar) >>= fun Ly =>
 some Ly
 else
 (if a1.ai = 38 then
 ao a0 ([[99, 111, 110, 116, 105, 110, 117, 101, 59]] : List ar) >>= fun Lz =>
 some Lz
 else
 (if a1.ai = 39 then
 (if (a1.ah.length : Int) = 0 then
 ao a0 ([[114, 101, 116, 117, 114, 110, 59]] : List ar) >>= fun LA =>
 some LA
 else
 idx a1.ah 0 >>= fun ZX =>
 ck a0 [114, 101, 116, 117, 114, 110, 32] ZX >>= fun LB =>
 some LB)
 else
 (if a1.ai = 40 then
 ao a0 ([[103, 108, 111, 98, 97, 108, 32, 36], a1.aj, [59]] : List ar) >>= fun LC =>
 some LC
 else
 (if a1.ai = 41 then
 ao a0 ([[117, 110, 115, 101, 116, 40]] : List ar) >>= fun LD =>
 idx a1.ah 0 >>= fun ZY =>
 aO LD ZY 12 >>= fun LF =>
 ao LF ([[41, 59]] : List ar) >>= fun LG =>
 some LG
 else
 (if a1.ai = 42 then
 idx a1.ah 0 >>= fun ZZ =>
 ck a0 [116, 104, 114, 111, 119, 32] ZZ >>= fun LH =>
 some LH
 else
 (if a1.ai = 46 then
 (if (a1.ah.length : Int) = 2 then
 idx a1.ah 0 >>= fun zi =>
 ao a0 ([[36], zi.aj, [32, 61, 32]] : List ar) >>= fun LI =>
 idx a1.ah (aU ((a1.ah.length : Int) - 1)) >>= fun Z0 =>
 ck LI [121, 105, 101, 108, 100, 32] Z0 >>= fun LJ =>
 some LJ
 else
 idx a1.ah (aU ((a1.ah.length : Int) - 1)) >>= fun Z1 =>
 ck a0 [121, 105, 101, 108, 100, 32] Z1 >>= fun LK =>
 some LK)
 else
 (if a1.ai = 47 then
 ic a1.aj >>= fun FE =>
 ao a0 ([[105, 110, 99, 108, 117, 100, 101, 32], FE, [59]] : List ar) >>= fun LL =>
 some LL
 else
 (if a1.ai = 48 then
 aQ a0 a1 >>= fun LM =>
 some LM
 else
 (if a1.ai = 43 then
 dU a0 a1 >>= fun LN =>
 some LN
 else
 (if a1.ai = 49 then
 jm a0 a1 >>= fun LO =>
 some LO
 else
 (if a1.ai = 50 then
 kA a0 [99, 108, 97, 115, 115, 32] a1 >>= fun LP =>
 some LP
 else
 (if a1.ai = 51 then
 kA a0 [116, 114, 97, 105, 116, 32] a1 >>= fun LQ =>
 some LQ
 else
 some a0)))))))))))))))))))
partial_fixpoint
def dU (a0 : av) (a1 : ae) : Option (av) :=
 ao a0 ([[116, 114, 121, 32]] : List ar) >>= fun LR =>
 idx a1.ah 0 >>= fun Z2 =>
 aQ LR Z2 >>= fun yJ =>
 jL a1.ah 1 >>= fun fx =>
 bJ fx yJ.af.aq 0
partial_fixpoint
def jm (a0 : av) (a1 : ae) : Option (av) :=
 ao a0 ([[102, 117, 110, 99, 116, 105, 111, 110, 32], a1.aj] : List ar) >>= fun LS =>
 dh LS a1.ah 24 >>= fun LU =>
 ao LU ([[32]] : List ar) >>= fun LV =>
 idx a1.ah (aU ((a1.ah.length : Int) - 1)) >>= fun Z3 =>
 aQ LV Z3 >>= fun LW =>
 some LW
partial_fixpoint
def kA (a0 : av) (a1 : ar) (a2 : ae) : Option (av) :=
 ao a0 ([a1, a2.aj] : List ar) >>= fun CY =>
 (
 (if (a2.ah.length : Int) > 0 then
 idx a2.ah 0 >>= fun Z4 =>
 (if Z4.ai = 52 then
 idx a2.ah 0 >>= fun CZ =>
 ao CY ([[32, 101, 120, 116, 101, 110, 100, 115, 32], CZ.aj] : List ar) >>= fun LX =>
 jL a2.ah 1 >>= fun Pg =>
 some (LX.af.aq, Pg)
 else
 some (CY.af.aq, a2.ah))
 else
 some (CY.af.aq, a2.ah))
 : Option ((List UInt8) × (List ae))) >>= fun (C0, dV) =>
 ao (av.mk (aF.mk () C0)) ([[32, 123, 32]] : List ar) >>= fun FF =>
 (
 eC dV FF.af.aq 0
 : Option ((List UInt8))) >>= fun C1 =>
 ao (av.mk (aF.mk () C1)) ([[125]] : List ar) >>= fun LY =>
 some LY
partial_fixpoint
def cJ (a1 : List ae) (hI : List UInt8) (gq : Int) : Option ((List UInt8)) :=
 (if gq < (a1.length : Int) then
 idx a1 gq >>= fun oZ =>
 (if gq > 0 then
 ao (av.mk (aF.mk () hI)) ([[44, 32]] : List ar) >>= fun zj =>
 aO zj oZ 1 >>= fun zk =>
 cJ a1 zk.af.aq (aU (gq + 1))
 else
 aO (av.mk (aF.mk () hI)) oZ 1 >>= fun zl =>
 cJ a1 zl.af.aq (aU (gq + 1)))
 else
 some hI)
partial_fixpoint
def cK (a1 : ae) (hJ : List UInt8) (gl : Int) : Option ((List UInt8)) :=
 (if gl < (a1.ah.length : Int) then
 idx a1.ah gl >>= fun k5 =>
 (
 (if gl > 0 then
 ao (av.mk (aF.mk () hJ)) ([[44, 32]] : List ar) >>= fun tZ =>
 some tZ.af.aq
 else
 some hJ)
 : Option ((List UInt8))) >>= fun rU =>
 (if (k5.ah.length : Int) = 2 then
 bA (av.mk (aF.mk () rU)) k5 1 [32, 61, 62, 32] 1 >>= fun zm =>
 cK a1 zm.af.aq (aU (gl + 1))
 else
 idx k5.ah 0 >>= fun C2 =>
 aO (av.mk (aF.mk () rU)) C2 1 >>= fun zn =>
 cK a1 zn.af.aq (aU (gl + 1)))
 else
 some hJ)
partial_fixpoint
def dj (a1 : ae) (iZ : List UInt8) (iG : Int) : Option ((List UInt8)) :=
 (if iG < (a1.ah.length : Int) then
 idx a1.ah iG >>= fun s7 =>
 gY (av.mk (aF.mk () iZ)) s7 >>= fun zo =>
 ao zo ([[32]] : List ar) >>= fun zp =>
 dj a1 zp.af.aq (aU (iG + 1))
 else
 some iZ)
partial_fixpoint
def bJ (fx : List ae) (hU : List UInt8) (gO : Int) : Option (av) :=
 (if gO < (fx.length : Int) then
 idx fx gO >>= fun jo =>
 (if jo.ai = 44 then
 idx jo.ah 0 >>= fun s9 =>
 ao (av.mk (aF.mk () hU)) ([[32, 99, 97, 116, 99, 104, 32, 40], jo.aj, [32, 36], s9.aj, [41, 32]] : List ar) >>= fun zq =>
 idx jo.ah 1 >>= fun C3 =>
 aQ zq C3 >>= fun zr =>
 bJ fx zr.af.aq (aU (gO + 1))
 else
 ao (av.mk (aF.mk () hU)) ([[32, 102, 105, 110, 97, 108, 108, 121, 32]] : List ar) >>= fun zs =>
 idx jo.ah 0 >>= fun C4 =>
 aQ zs C4 >>= fun zt =>
 bJ fx zt.af.aq (aU (gO + 1)))
 else
 some (av.mk (aF.mk () hU)))
partial_fixpoint
def eC (dV : List ae) (gD : List UInt8) (fW : Int) : Option ((List UInt8)) :=
 (if fW < (dV.length : Int) then
 idx dV fW >>= fun fy =>
 (if fy.ai = 53 then
 ao (av.mk (aF.mk () gD)) ([[117, 115, 101, 32], fy.aj, [59, 32]] : List ar) >>= fun zu =>
 eC dV zu.af.aq (aU (fW + 1))
 else
 (
 (if (bits .and .i64 fy.aD 1) = 0 then
 some gD
 else
 ao (av.mk (aF.mk () gD)) ([[112, 114, 105, 118, 97, 116, 101, 32]] : List ar) >>= fun zw =>
 some zw.af.aq)
 : Option ((List UInt8))) >>= fun rV =>
 (
 (if (bits .and .i64 fy.aD 2) = 0 then
 some rV
 else
 ao (av.mk (aF.mk () rV)) ([[115, 116, 97, 116, 105, 99, 32]] : List ar) >>= fun zx =>
 some zx.af.aq)
 : Option ((List UInt8))) >>= fun rW =>
 (if fy.ai = 54 then
 aH [36] fy.aj >>= fun C5 =>
 aH C5 [32, 61, 32] >>= fun C6 =>
 idx fy.ah 0 >>= fun C7 =>
 ck (av.mk (aF.mk () rW)) C6 C7 >>= fun zy =>
 ao zy ([[32]] : List ar) >>= fun zA =>
 eC dV zA.af.aq (aU (fW + 1))
 else
 jm (av.mk (aF.mk () rW)) fy >>= fun zB =>
 ao zB ([[32]] : List ar) >>= fun zC =>
 eC dV zC.af.aq (aU (fW + 1))))
 else
 some gD)
partial_fixpoint
end
def xX (a0 : av) (a1 : ae) (a2 : Int) (r : av) : Prop := ∀ g1000 : Nat, ∀ g1001 : Nat, ACall Tryz.prog 46 [.aL 0 g1000 0 0, .agg a1.lit, .int .i64 a2] [.row g1000 2 1 51 (fun _ => [aM g1001 0 g1000, .own 1 g1001 0 a0.af.aq.length]), .row g1001 1 a0.af.aq.length 5 (row cB a0.af.aq)] (fun res h => ∃ G1 : Nat, res = .aV [] ∧ h = [.row g1000 2 1 51 (fun _ => [aM G1 0 g1000, .own 1 G1 0 r.af.aq.length]), .row G1 1 r.af.aq.length 5 (row cB r.af.aq)])
def T8 (a0 : av) (a1 : ae) (r : av) : Prop := ∀ g1000 : Nat, ∀ g1001 : Nat, ACall Tryz.prog 93 [.aL 0 g1000 0 0, .agg a1.lit] [.row g1000 2 1 51 (fun _ => [aM g1001 0 g1000, .own 1 g1001 0 a0.af.aq.length]), .row g1001 1 a0.af.aq.length 5 (row cB a0.af.aq)] (fun res h => ∃ G1 : Nat, res = .aV [] ∧ h = [.row g1000 2 1 51 (fun _ => [aM G1 0 g1000, .own 1 G1 0 r.af.aq.length]), .row G1 1 r.af.aq.length 5 (row cB r.af.aq)])
def zD (a0 : av) (a1 : ae) (a2 : Int) (a3 : ar) (a4 : Int) (r : av) : Prop := ∀ g1000 : Nat, ∀ g1001 : Nat, ACall Tryz.prog 154 [.aL 0 g1000 0 0, .agg a1.lit, .int .i64 a2, .str a3, .int .i64 a4] [.row g1000 2 1 51 (fun _ => [aM g1001 0 g1000, .own 1 g1001 0 a0.af.aq.length]), .row g1001 1 a0.af.aq.length 5 (row cB a0.af.aq)] (fun res h => ∃ G1 : Nat, res = .aV [] ∧ h = [.row g1000 2 1 51 (fun _ => [aM G1 0 g1000, .own 1 G1 0 r.af.aq.length]), .row G1 1 r.af.aq.length 5 (row cB r.af.aq)])
def LZ (a0 : av) (a1 : List ae) (r : av) : Prop := ∀ g1000 : Nat, ∀ g1001 : Nat, ACall Tryz.prog 156 [.aL 0 g1000 0 0, sl 4 ae.cells a1] [.row g1000 2 1 51 (fun _ => [aM g1001 0 g1000, .own 1 g1001 0 a0.af.aq.length]), .row g1001 1 a0.af.aq.length 5 (row cB a0.af.aq)] (fun res h => ∃ G1 : Nat, res = .aV [] ∧ h = [.row g1000 2 1 51 (fun _ => [aM G1 0 g1000, .own 1 G1 0 r.af.aq.length]), .row G1 1 r.af.aq.length 5 (row cB r.af.aq)])
def L0 (a0 : av) (a1 : ae) (r : av) : Prop := ∀ g1000 : Nat, ∀ g1001 : Nat, ACall Tryz.prog 153 [.aL 0 g1000 0 0, .agg a1.lit] [.row g1000 2 1 51 (fun _ => [aM g1001 0 g1000, .own 1 g1001 0 a0.af.aq.length]), .row g1001 1 a0.af.aq.length 5 (row cB a0.af.aq)] (fun res h => ∃ G1 : Nat, res = .aV [] ∧ h = [.row g1000 2 1 51 (fun _ => [aM G1 0 g1000, .own 1 G1 0 r.af.aq.length]), .row G1 1 r.af.aq.length 5 (row cB r.af.aq)])
def L1 (a0 : av) (a1 : ae) (r : av) : Prop := ∀ g1000 : Nat, ∀ g1001 : Nat, ACall Tryz.prog 157 [.aL 0 g1000 0 0, .agg a1.lit] [.row g1000 2 1 51 (fun _ => [aM g1001 0 g1000, .own 1 g1001 0 a0.af.aq.length]), .row g1001 1 a0.af.aq.length 5 (row cB a0.af.aq)] (fun res h => ∃ G1 : Nat, res = .aV [] ∧ h = [.row g1000 2 1 51 (fun _ => [aM G1 0 g1000, .own 1 G1 0 r.af.aq.length]), .row G1 1 r.af.aq.length 5 (row cB r.af.aq)])
def En (a0 : av) (a1 : ae) (r : av) : Prop := ∀ g1000 : Nat, ∀ g1001 : Nat, ACall Tryz.prog 42 [.aL 0 g1000 0 0, .agg a1.lit] [.row g1000 2 1 51 (fun _ => [aM g1001 0 g1000, .own 1 g1001 0 a0.af.aq.length]), .row g1001 1 a0.af.aq.length 5 (row cB a0.af.aq)] (fun res h => ∃ G1 : Nat, res = .aV [] ∧ h = [.row g1000 2 1 51 (fun _ => [aM G1 0 g1000, .own 1 G1 0 r.af.aq.length]), .row G1 1 r.af.aq.length 5 (row cB r.af.aq)])
def Eo (a0 : av) (a1 : ar) (a2 : ae) (r : av) : Prop := ∀ g1000 : Nat, ∀ g1001 : Nat, ACall Tryz.prog 95 [.aL 0 g1000 0 0, .str a1, .agg a2.lit] [.row g1000 2 1 51 (fun _ => [aM g1001 0 g1000, .own 1 g1001 0 a0.af.aq.length]), .row g1001 1 a0.af.aq.length 5 (row cB a0.af.aq)] (fun res h => ∃ G1 : Nat, res = .aV [] ∧ h = [.row g1000 2 1 51 (fun _ => [aM G1 0 g1000, .own 1 G1 0 r.af.aq.length]), .row G1 1 r.af.aq.length 5 (row cB r.af.aq)])
def Ep (a0 : av) (a1 : ae) (r : av) : Prop := ∀ g1000 : Nat, ∀ g1001 : Nat, ACall Tryz.prog 49 [.aL 0 g1000 0 0, .agg a1.lit] [.row g1000 2 1 51 (fun _ => [aM g1001 0 g1000, .own 1 g1001 0 a0.af.aq.length]), .row g1001 1 a0.af.aq.length 5 (row cB a0.af.aq)] (fun res h => ∃ G1 : Nat, res = .aV [] ∧ h = [.row g1000 2 1 51 (fun _ => [aM G1 0 g1000, .own 1 G1 0 r.af.aq.length]), .row G1 1 r.af.aq.length 5 (row cB r.af.aq)])
def T9 (a0 : av) (a1 : ae) (r : av) : Prop := ∀ g1000 : Nat, ∀ g1001 : Nat, ACall Tryz.prog 97 [.aL 0 g1000 0 0, .agg a1.lit] [.row g1000 2 1 51 (fun _ => [aM g1001 0 g1000, .own 1 g1001 0 a0.af.aq.length]), .row g1001 1 a0.af.aq.length 5 (row cB a0.af.aq)] (fun res h => ∃ G1 : Nat, res = .aV [] ∧ h = [.row g1000 2 1 51 (fun _ => [aM G1 0 g1000, .own 1 G1 0 r.af.aq.length]), .row G1 1 r.af.aq.length 5 (row cB r.af.aq)])
def Er (a0 : av) (a1 : ae) (r : av) : Prop := ∀ g1000 : Nat, ∀ g1001 : Nat, ACall Tryz.prog 98 [.aL 0 g1000 0 0, .agg a1.lit] [.row g1000 2 1 51 (fun _ => [aM g1001 0 g1000, .own 1 g1001 0 a0.af.aq.length]), .row g1001 1 a0.af.aq.length 5 (row cB a0.af.aq)] (fun res h => ∃ G1 : Nat, res = .aV [] ∧ h = [.row g1000 2 1 51 (fun _ => [aM G1 0 g1000, .own 1 G1 0 r.af.aq.length]), .row G1 1 r.af.aq.length 5 (row cB r.af.aq)])
def Ua (a0 : av) (a1 : ar) (a2 : ae) (r : av) : Prop := ∀ g1000 : Nat, ∀ g1001 : Nat, ACall Tryz.prog 99 [.aL 0 g1000 0 0, .str a1, .agg a2.lit] [.row g1000 2 1 51 (fun _ => [aM g1001 0 g1000, .own 1 g1001 0 a0.af.aq.length]), .row g1001 1 a0.af.aq.length 5 (row cB a0.af.aq)] (fun res h => ∃ G1 : Nat, res = .aV [] ∧ h = [.row g1000 2 1 51 (fun _ => [aM G1 0 g1000, .own 1 G1 0 r.af.aq.length]), .row G1 1 r.af.aq.length 5 (row cB r.af.aq)])
inductive cf : (List ae) → (List UInt8) → Int → ((List UInt8)) → Prop
 | mk (FG : av → ae → Int → Option (av)) (Z5 : ∀ a0 a1 a2 r, FG a0 a1 a2 = some r → xX a0 a1 a2 r) (bM : (List ae) → (List UInt8) → Int → Option ((List UInt8))) (om : ∀ a1 hI gq o, bM a1 hI gq = some o → cf a1 hI gq o) (a1 : List ae) (hI : List UInt8) (gq : Int) (o : (List UInt8)) (h : (
 (if gq < (a1.length : Int) then
 idx a1 gq >>= fun oZ =>
 (if gq > 0 then
 ao (av.mk (aF.mk () hI)) ([[44, 32]] : List ar) >>= fun zj =>
 FG zj oZ 1 >>= fun zk =>
 bM a1 zk.af.aq (aU (gq + 1))
 else
 FG (av.mk (aF.mk () hI)) oZ 1 >>= fun zl =>
 bM a1 zl.af.aq (aU (gq + 1)))
 else
 some hI)
 ) = some o) : cf a1 hI gq o
theorem nL {motive : (List ae) → (List UInt8) → Int → ((List UInt8)) → Prop} (step : ∀ (FG : av → ae → Int → Option (av)) (Z5 : ∀ a0 a1 a2 r, FG a0 a1 a2 = some r → xX a0 a1 a2 r) (bM : (List ae) → (List UInt8) → Int → Option ((List UInt8))) (om : ∀ a1 hI gq o, bM a1 hI gq = some o → cf a1 hI gq o) (a1 : List ae) (hI : List UInt8) (gq : Int) (o : (List UInt8)) (h : (
 (if gq < (a1.length : Int) then
 idx a1 gq >>= fun oZ =>
 (if gq > 0 then
 ao (av.mk (aF.mk () hI)) ([[44, 32]] : List ar) >>= fun zj =>
 FG zj oZ 1 >>= fun zk =>
 bM a1 zk.af.aq (aU (gq + 1))
 else
 FG (av.mk (aF.mk () hI)) oZ 1 >>= fun zl =>
 bM a1 zl.af.aq (aU (gq + 1)))
 else
 some hI)
 ) = some o) (ih : ∀ a1 hI gq o, bM a1 hI gq = some o → motive a1 hI gq o), motive a1 hI gq o) : ∀ a1 hI gq o, cf a1 hI gq o → motive a1 hI gq o :=
 fun a1 hI gq o h => cf.rec (motive := fun a1 hI gq o _ => motive a1 hI gq o) step h
inductive cg : ae → (List UInt8) → Int → ((List UInt8)) → Prop
 | mk (FG : av → ae → Int → Option (av)) (Z5 : ∀ a0 a1 a2 r, FG a0 a1 a2 = some r → xX a0 a1 a2 r) (L2 : av → ae → Int → ar → Int → Option (av)) (ajk : ∀ a0 a1 a2 a3 a4 r, L2 a0 a1 a2 a3 a4 = some r → zD a0 a1 a2 a3 a4 r) (bN : ae → (List UInt8) → Int → Option ((List UInt8))) (oq : ∀ a1 hJ gl o, bN a1 hJ gl = some o → cg a1 hJ gl o) (a1 : ae) (hJ : List UInt8) (gl : Int) (o : (List UInt8)) (h : (
 (if gl < (a1.ah.length : Int) then
 idx a1.ah gl >>= fun k5 =>
 (
 (if gl > 0 then
 ao (av.mk (aF.mk () hJ)) ([[44, 32]] : List ar) >>= fun tZ =>
 some tZ.af.aq
 else
 some hJ)
 : Option ((List UInt8))) >>= fun rU =>
 (if (k5.ah.length : Int) = 2 then
 L2 (av.mk (aF.mk () rU)) k5 1 [32, 61, 62, 32] 1 >>= fun zm =>
 bN a1 zm.af.aq (aU (gl + 1))
 else
 idx k5.ah 0 >>= fun C2 =>
 FG (av.mk (aF.mk () rU)) C2 1 >>= fun zn =>
 bN a1 zn.af.aq (aU (gl + 1)))
 else
 some hJ)
 ) = some o) : cg a1 hJ gl o
theorem nM {motive : ae → (List UInt8) → Int → ((List UInt8)) → Prop} (step : ∀ (FG : av → ae → Int → Option (av)) (Z5 : ∀ a0 a1 a2 r, FG a0 a1 a2 = some r → xX a0 a1 a2 r) (L2 : av → ae → Int → ar → Int → Option (av)) (ajk : ∀ a0 a1 a2 a3 a4 r, L2 a0 a1 a2 a3 a4 = some r → zD a0 a1 a2 a3 a4 r) (bN : ae → (List UInt8) → Int → Option ((List UInt8))) (oq : ∀ a1 hJ gl o, bN a1 hJ gl = some o → cg a1 hJ gl o) (a1 : ae) (hJ : List UInt8) (gl : Int) (o : (List UInt8)) (h : (
 (if gl < (a1.ah.length : Int) then
 idx a1.ah gl >>= fun k5 =>
 (
 (if gl > 0 then
 ao (av.mk (aF.mk () hJ)) ([[44, 32]] : List ar) >>= fun tZ =>
 some tZ.af.aq
 else
 some hJ)
 : Option ((List UInt8))) >>= fun rU =>
 (if (k5.ah.length : Int) = 2 then
 L2 (av.mk (aF.mk () rU)) k5 1 [32, 61, 62, 32] 1 >>= fun zm =>
 bN a1 zm.af.aq (aU (gl + 1))
 else
 idx k5.ah 0 >>= fun C2 =>
 FG (av.mk (aF.mk () rU)) C2 1 >>= fun zn =>
 bN a1 zn.af.aq (aU (gl + 1)))
 else
 some hJ)
 ) = some o) (ih : ∀ a1 hJ gl o, bN a1 hJ gl = some o → motive a1 hJ gl o), motive a1 hJ gl o) : ∀ a1 hJ gl o, cg a1 hJ gl o → motive a1 hJ gl o :=
 fun a1 hJ gl o h => cg.rec (motive := fun a1 hJ gl o _ => motive a1 hJ gl o) step h
inductive bV : ae → (List UInt8) → Int → ((List UInt8)) → Prop
 | mk (G49 : av → ae → Option (av)) (apf : ∀ a0 a1 r, G49 a0 a1 = some r → Ep a0 a1 r) (cx : ae → (List UInt8) → Int → Option ((List UInt8))) (nN : ∀ a1 iZ iG o, cx a1 iZ iG = some o → bV a1 iZ iG o) (a1 : ae) (iZ : List UInt8) (iG : Int) (o : (List UInt8)) (h : (
 (if iG < (a1.ah.length : Int) then
 idx a1.ah iG >>= fun s7 =>
 G49 (av.mk (aF.mk () iZ)) s7 >>= fun zo =>
 ao zo ([[32]] : List ar) >>= fun zp =>
 cx a1 zp.af.aq (aU (iG + 1))
 else
 some iZ)
 ) = some o) : bV a1 iZ iG o
theorem mW {motive : ae → (List UInt8) → Int → ((List UInt8)) → Prop} (step : ∀ (G49 : av → ae → Option (av)) (apf : ∀ a0 a1 r, G49 a0 a1 = some r → Ep a0 a1 r) (cx : ae → (List UInt8) → Int → Option ((List UInt8))) (nN : ∀ a1 iZ iG o, cx a1 iZ iG = some o → bV a1 iZ iG o) (a1 : ae) (iZ : List UInt8) (iG : Int) (o : (List UInt8)) (h : (
 (if iG < (a1.ah.length : Int) then
 idx a1.ah iG >>= fun s7 =>
 G49 (av.mk (aF.mk () iZ)) s7 >>= fun zo =>
 ao zo ([[32]] : List ar) >>= fun zp =>
 cx a1 zp.af.aq (aU (iG + 1))
 else
 some iZ)
 ) = some o) (ih : ∀ a1 iZ iG o, cx a1 iZ iG = some o → motive a1 iZ iG o), motive a1 iZ iG o) : ∀ a1 iZ iG o, bV a1 iZ iG o → motive a1 iZ iG o :=
 fun a1 iZ iG o h => bV.rec (motive := fun a1 iZ iG o _ => motive a1 iZ iG o) step h
inductive cr : (List ae) → (List UInt8) → Int → (av) → Prop
 | mk (Z6 : av → ae → Option (av)) (apg : ∀ a0 a1 r, Z6 a0 a1 = some r → En a0 a1 r) (bT : (List ae) → (List UInt8) → Int → Option (av)) (o9 : ∀ fx hU gO o, bT fx hU gO = some o → cr fx hU gO o) (fx : List ae) (hU : List UInt8) (gO : Int) (o : av) (h : (
 (if gO < (fx.length : Int) then
 idx fx gO >>= fun jo =>
 (if jo.ai = 44 then
 idx jo.ah 0 >>= fun s9 =>
 ao (av.mk (aF.mk () hU)) ([[32, 99, 97, 116, 99, 104, 32, 40], jo.aj, [32, 36], s9.aj, [41, 32]] : List ar) >>= fun zq =>
 idx jo.ah 1 >>= fun C3 =>
 Z6 zq C3 >>= fun zr =>
 bT fx zr.af.aq (aU (gO + 1))
 else
 ao (av.mk (aF.mk () hU)) ([[32, 102, 105, 110, 97, 108, 108, 121, 32]] : List ar) >>= fun zs =>
 idx jo.ah 0 >>= fun C4 =>
 Z6 zs C4 >>= fun zt =>
 bT fx zt.af.aq (aU (gO + 1)))
 else
 some (av.mk (aF.mk () hU)))
 ) = some o) : cr fx hU gO o
theorem ot {motive : (List ae) → (List UInt8) → Int → (av) → Prop} (step : ∀ (Z6 : av → ae → Option (av)) (apg : ∀ a0 a1 r, Z6 a0 a1 = some r → En a0 a1 r) (bT : (List ae) → (List UInt8) → Int → Option (av)) (o9 : ∀ fx hU gO o, bT fx hU gO = some o → cr fx hU gO o) (fx : List ae) (hU : List UInt8) (gO : Int) (o : av) (h : (
 (if gO < (fx.length : Int) then
 idx fx gO >>= fun jo =>
 (if jo.ai = 44 then
 idx jo.ah 0 >>= fun s9 =>
 ao (av.mk (aF.mk () hU)) ([[32, 99, 97, 116, 99, 104, 32, 40], jo.aj, [32, 36], s9.aj, [41, 32]] : List ar) >>= fun zq =>
 idx jo.ah 1 >>= fun C3 =>
 Z6 zq C3 >>= fun zr =>
 bT fx zr.af.aq (aU (gO + 1))
 else
 ao (av.mk (aF.mk () hU)) ([[32, 102, 105, 110, 97, 108, 108, 121, 32]] : List ar) >>= fun zs =>
 idx jo.ah 0 >>= fun C4 =>
 Z6 zs C4 >>= fun zt =>
 bT fx zt.af.aq (aU (gO + 1)))
 else
 some (av.mk (aF.mk () hU)))
 ) = some o) (ih : ∀ fx hU gO o, bT fx hU gO = some o → motive fx hU gO o), motive fx hU gO o) : ∀ fx hU gO o, cr fx hU gO o → motive fx hU gO o :=
 fun fx hU gO o h => cr.rec (motive := fun fx hU gO o _ => motive fx hU gO o) step h
inductive bW : (List ae) → (List UInt8) → Int → ((List UInt8)) → Prop
 | mk (G95 : av → ar → ae → Option (av)) (aph : ∀ a0 a1 a2 r, G95 a0 a1 a2 = some r → Eo a0 a1 a2 r) (G98 : av → ae → Option (av)) (api : ∀ a0 a1 r, G98 a0 a1 = some r → Er a0 a1 r) (ba : (List ae) → (List UInt8) → Int → Option ((List UInt8))) (nO : ∀ dV gD fW o, ba dV gD fW = some o → bW dV gD fW o) (dV : List ae) (gD : List UInt8) (fW : Int) (o : (List UInt8)) (h : (
 (if fW < (dV.length : Int) then
 idx dV fW >>= fun fy =>
 (if fy.ai = 53 then
 ao (av.mk (aF.mk () gD)) ([[117, 115, 101, 32], fy.aj, [59, 32]] : List ar) >>= fun zu =>
 ba dV zu.af.aq (aU (fW + 1))
 else
 (
 (if (bits .and .i64 fy.aD 1) = 0 then
 some gD
 else
 ao (av.mk (aF.mk () gD)) ([[112, 114, 105, 118, 97, 116, 101, 32]] : List ar) >>= fun zw =>
 some zw.af.aq)
 : Option ((List UInt8))) >>= fun rV =>
 (
 (if (bits .and .i64 fy.aD 2) = 0 then
 some rV
 else
 ao (av.mk (aF.mk () rV)) ([[115, 116, 97, 116, 105, 99, 32]] : List ar) >>= fun zx =>
 some zx.af.aq)
 : Option ((List UInt8))) >>= fun rW =>
 (if fy.ai = 54 then
 aH [36] fy.aj >>= fun C5 =>
 aH C5 [32, 61, 32] >>= fun C6 =>
 idx fy.ah 0 >>= fun C7 =>
 G95 (av.mk (aF.mk () rW)) C6 C7 >>= fun zy =>
 ao zy ([[32]] : List ar) >>= fun zA =>
 ba dV zA.af.aq (aU (fW + 1))
 else
 G98 (av.mk (aF.mk () rW)) fy >>= fun zB =>
 ao zB ([[32]] : List ar) >>= fun zC =>
 ba dV zC.af.aq (aU (fW + 1))))
 else
 some gD)
 ) = some o) : bW dV gD fW o
theorem mX {motive : (List ae) → (List UInt8) → Int → ((List UInt8)) → Prop} (step : ∀ (G95 : av → ar → ae → Option (av)) (aph : ∀ a0 a1 a2 r, G95 a0 a1 a2 = some r → Eo a0 a1 a2 r) (G98 : av → ae → Option (av)) (api : ∀ a0 a1 r, G98 a0 a1 = some r → Er a0 a1 r) (ba : (List ae) → (List UInt8) → Int → Option ((List UInt8))) (nO : ∀ dV gD fW o, ba dV gD fW = some o → bW dV gD fW o) (dV : List ae) (gD : List UInt8) (fW : Int) (o : (List UInt8)) (h : (
 (if fW < (dV.length : Int) then
 idx dV fW >>= fun fy =>
 (if fy.ai = 53 then
 ao (av.mk (aF.mk () gD)) ([[117, 115, 101, 32], fy.aj, [59, 32]] : List ar) >>= fun zu =>
 ba dV zu.af.aq (aU (fW + 1))
 else
 (
 (if (bits .and .i64 fy.aD 1) = 0 then
 some gD
 else
 ao (av.mk (aF.mk () gD)) ([[112, 114, 105, 118, 97, 116, 101, 32]] : List ar) >>= fun zw =>
 some zw.af.aq)
 : Option ((List UInt8))) >>= fun rV =>
 (
 (if (bits .and .i64 fy.aD 2) = 0 then
 some rV
 else
 ao (av.mk (aF.mk () rV)) ([[115, 116, 97, 116, 105, 99, 32]] : List ar) >>= fun zx =>
 some zx.af.aq)
 : Option ((List UInt8))) >>= fun rW =>
 (if fy.ai = 54 then
 aH [36] fy.aj >>= fun C5 =>
 aH C5 [32, 61, 32] >>= fun C6 =>
 idx fy.ah 0 >>= fun C7 =>
 G95 (av.mk (aF.mk () rW)) C6 C7 >>= fun zy =>
 ao zy ([[32]] : List ar) >>= fun zA =>
 ba dV zA.af.aq (aU (fW + 1))
 else
 G98 (av.mk (aF.mk () rW)) fy >>= fun zB =>
 ao zB ([[32]] : List ar) >>= fun zC =>
 ba dV zC.af.aq (aU (fW + 1))))
 else
 some gD)
 ) = some o) (ih : ∀ dV gD fW o, ba dV gD fW = some o → motive dV gD fW o), motive dV gD fW o) : ∀ dV gD fW o, bW dV gD fW o → motive dV gD fW o :=
 fun dV gD fW o h => bW.rec (motive := fun dV gD fW o _ => motive dV gD fW o) step h
theorem qF : (∀ a0 a1 a2 r, aO a0 a1 a2 = some r → xX a0 a1 a2 r) ∧ (∀ a0 a1 r, fM a0 a1 = some r → T8 a0 a1 r) ∧ (∀ a0 a1 r, ff a0 a1 = some r → L1 a0 a1 r) ∧ (∀ a0 a1 r, aQ a0 a1 = some r → En a0 a1 r) ∧ (∀ a1 iZ iG o, dj a1 iZ iG = some o → bV a1 iZ iG o) ∧ (∀ a0 a1 r, gY a0 a1 = some r → Ep a0 a1 r) ∧ (∀ a0 a1 a2 r, kA a0 a1 a2 = some r → Ua a0 a1 a2 r) ∧ (∀ dV gD fW o, eC dV gD fW = some o → bW dV gD fW o) ∧ (∀ a0 a1 r, jm a0 a1 = some r → Er a0 a1 r) ∧ (∀ a0 a1 a2 r, ck a0 a1 a2 = some r → Eo a0 a1 a2 r) ∧ (∀ a0 a1 r, dU a0 a1 = some r → T9 a0 a1 r) ∧ (∀ fx hU gO o, bJ fx hU gO = some o → cr fx hU gO o) ∧ (∀ a0 a1 r, dn a0 a1 = some r → LZ a0 a1 r) ∧ (∀ a1 hI gq o, cJ a1 hI gq = some o → cf a1 hI gq o) ∧ (∀ a0 a1 a2 a3 a4 r, bA a0 a1 a2 a3 a4 = some r → zD a0 a1 a2 a3 a4 r) ∧ (∀ a0 a1 r, jz a0 a1 = some r → L0 a0 a1 r) ∧ (∀ a1 hJ gl o, cK a1 hJ gl = some o → cg a1 hJ gl o) := by
 refine aO.mutual_partial_correctness xX T8 L1 En bV Ep Ua bW Er Eo T9 cr LZ cf zD L0 cg ?_ ?_ ?_ ?_ ?_ ?_ ?_ ?_ ?_ ?_ ?_ ?_ ?_ ?_ ?_ ?_ ?_
 intro _ Ub a0 a1 a2 r h g1000 g1001
 refine gd Tryz.func46 ?_
 refine .d (.d (.d ⟨rfl, _, rfl, (bk h fun v1 lz h => (aS (zE lz) (sD h (fun ow h => ?_) (fun ow h => ?_))))⟩))
 refine .d ⟨row cS ([[40]] : List ar), aC cS ([[40]] : List ar) rfl (aB rfl), (bk h fun v4 uP h => (cm (aw (g1000 := g1000) (g1001 := g1001) (g1002 := 0) uP) [0, 1, 3] ⟨cw, ov, ov, ⟨⟩⟩ ?_))⟩
 rintro _ _ ⟨g6, g7, rfl, rfl⟩
 refine ⟨.aV [], [.row g1000 2 1 51 (fun _ => [aM g6 0 g1000, .own 1 g6 0 v4.af.aq.length]), .row g6 1 v4.af.aq.length 5 (row cB v4.af.aq), .row 0 4 1 29 (fun _ => a1.lit), .row g7 1 ([[40]] : List ar).length 9 (row cS ([[40]] : List ar))], rfl, atv, (.d ⟨rfl, _, rfl, (bk h fun v8 hv9 h => (cH (Ub _ _ _ hv9 _ _) [0, 1] ⟨cw, ov, ⟨⟩⟩ (fun g10 => .aV []) (fun g10 => [.row g1000 2 1 51 (fun _ => [aM g10 0 g1000, .own 1 g10 0 v8.af.aq.length]), .row g10 1 v8.af.aq.length 5 (row cB v8.af.aq), .row 0 4 1 29 (fun _ => a1.lit), .row g7 1 ([[40]] : List ar).length 9 (row cS ([[40]] : List ar))]) fun g10 => (.d ⟨row cS ([[41]] : List ar), aC cS ([[41]] : List ar) rfl (aB rfl), (bk h fun v11 CQ h => (cm (aw (g1000 := g1000) (g1001 := g10) (g1002 := 0) CQ) [0, 1, 4] ⟨cw, ov, ov, ⟨⟩⟩ ?_))⟩)))⟩)⟩
 rintro _ _ ⟨g13, g14, rfl, rfl⟩
 refine ⟨.aV [], [.row g1000 2 1 51 (fun _ => [aM g13 0 g1000, .own 1 g13 0 v11.af.aq.length]), .row g13 1 v11.af.aq.length 5 (row cB v11.af.aq), .row 0 4 1 29 (fun _ => a1.lit), .row g7 1 ([[40]] : List ar).length 9 (row cS ([[40]] : List ar)), .row g14 1 ([[41]] : List ar).length 9 (row cS ([[41]] : List ar))], rfl, atv, ?_⟩
 obtain rfl := si h
 exact en [0, 1] ⟨g13, rfl, rfl⟩ (.br ⟨⟩) ⟨(ob rfl ⟨.aM, .o, ⟨⟩⟩), od, ⟨⟩⟩
 refine ⟨rfl, _, rfl, (bk h fun wI B8 h => (cH (Ub _ _ _ B8 _ _) [0, 1] ⟨cw, ov, ⟨⟩⟩ (fun g17 => .aV []) (fun g17 => [.row g1000 2 1 51 (fun _ => [aM g17 0 g1000, .own 1 g17 0 wI.af.aq.length]), .row g17 1 wI.af.aq.length 5 (row cB wI.af.aq), .row 0 4 1 29 (fun _ => a1.lit)]) fun g17 => ?_))⟩
 obtain rfl := si h
 exact en [0, 1] ⟨g17, rfl, rfl⟩ (.br ⟨⟩) ⟨(ob rfl ⟨.aM, .o, ⟨⟩⟩), od, ⟨⟩⟩
 intro _ _ _ _ _ km Z7 vO qG Z8 a0 a1 r h g1000 g1001
 refine gd Tryz.func93 ?_
 refine .d (.d ⟨rfl, ⟨rfl, _, rfl, (.d (sE h (fun wU h => ?_) (fun wU h => ?_)))⟩⟩)
 refine ⟨rfl, ⟨rfl, _, rfl, (bk h fun yI IQ h => (aS (u6 IQ) ⟨row cS ([yI] : List ar), aC cS ([yI] : List ar) rfl (aB rfl), (bk h fun v21 Z9 h => (cm (aw (g1000 := g1000) (g1001 := g1001) (g1002 := 0) Z9) [0, 1, 3] ⟨cw, ov, ov, ⟨⟩⟩ ?_))⟩))⟩⟩
 rintro _ _ ⟨g23, g24, rfl, rfl⟩
 refine ⟨.aV [], [.row g1000 2 1 51 (fun _ => [aM g23 0 g1000, .own 1 g23 0 v21.af.aq.length]), .row g23 1 v21.af.aq.length 5 (row cB v21.af.aq), .row 0 4 1 29 (fun _ => a1.lit), .row g24 1 ([yI] : List ar).length 9 (row cS ([yI] : List ar))], rfl, atv, ?_⟩
 obtain rfl := si h
 exact en [0, 1] ⟨g23, rfl, rfl⟩ (.br ⟨⟩) ⟨(ob rfl ⟨.aM, .o, ⟨⟩⟩), od, ⟨⟩⟩
 refine .d (sE h (fun Fx h => ?_) (fun Fx h => ?_))
 refine ⟨rfl, ⟨rfl, _, rfl, (bk h fun G9 ZG h => (aS (pa ZG) ⟨row cS ([G9] : List ar), aC cS ([G9] : List ar) rfl (aB rfl), (bk h fun v28 apj h => (cm (aw (g1000 := g1000) (g1001 := g1001) (g1002 := 0) apj) [0, 1, 3] ⟨cw, ov, ov, ⟨⟩⟩ ?_))⟩))⟩⟩
 rintro _ _ ⟨g30, g31, rfl, rfl⟩
 refine ⟨.aV [], [.row g1000 2 1 51 (fun _ => [aM g30 0 g1000, .own 1 g30 0 v28.af.aq.length]), .row g30 1 v28.af.aq.length 5 (row cB v28.af.aq), .row 0 4 1 29 (fun _ => a1.lit), .row g31 1 ([G9] : List ar).length 9 (row cS ([G9] : List ar))], rfl, atv, ?_⟩
 obtain rfl := si h
 exact en [0, 1] ⟨g30, rfl, rfl⟩ (.br ⟨⟩) ⟨(ob rfl ⟨.aM, .o, ⟨⟩⟩), od, ⟨⟩⟩
 refine .d (sE h (fun Hv h => ?_) (fun Hv h => ?_))
 refine ⟨row cS ([[110, 117, 108, 108], [102, 97, 108, 115, 101], [116, 114, 117, 101]] : List ar), aC cS ([[110, 117, 108, 108], [102, 97, 108, 115, 101], [116, 114, 117, 101]] : List ar) rfl (aB rfl), ⟨rfl, ⟨rfl, _, rfl, (bk h fun Nq Ix h => ⟨rfl, aA Ix, _, are _, ⟨rfl, _, ((ax Ix).trans rfl), ⟨row cS ([Nq] : List ar), aC cS ([Nq] : List ar) rfl (aB rfl), (bk h fun zY Hx h => (cm (aw (g1000 := g1000) (g1001 := g1001) (g1002 := 0) Hx) [0, 1, 4] ⟨cw, ov, ov, ⟨⟩⟩ ?_))⟩⟩⟩)⟩⟩⟩
 rintro _ _ ⟨Pc, g38, rfl, rfl⟩
 refine ⟨.aV [], [.row g1000 2 1 51 (fun _ => [aM Pc 0 g1000, .own 1 Pc 0 zY.af.aq.length]), .row Pc 1 zY.af.aq.length 5 (row cB zY.af.aq), .row 0 4 1 29 (fun _ => a1.lit), .row 0 1 ([[110, 117, 108, 108], [102, 97, 108, 115, 101], [116, 114, 117, 101]] : List ar).length 9 (row cS ([[110, 117, 108, 108], [102, 97, 108, 115, 101], [116, 114, 117, 101]] : List ar)), .row g38 1 ([Nq] : List ar).length 9 (row cS ([Nq] : List ar))], rfl, atv, ?_⟩
 obtain rfl := si h
 exact en [0, 1] ⟨Pc, rfl, rfl⟩ (.br ⟨⟩) ⟨(ob rfl ⟨.aM, .o, ⟨⟩⟩), od, ⟨⟩⟩
 refine .d (sE h (fun JB h => ?_) (fun JB h => ?_))
 refine ⟨rfl, ⟨rfl, _, rfl, ⟨row cS ([[36], a1.aj] : List ar), aC cS ([[36], a1.aj] : List ar) rfl (aB rfl), (bk h fun v40 JC h => (cm (aw (g1000 := g1000) (g1001 := g1001) (g1002 := 0) JC) [0, 1, 3] ⟨cw, ov, ov, ⟨⟩⟩ ?_))⟩⟩⟩
 rintro _ _ ⟨g42, g43, rfl, rfl⟩
 refine ⟨.aV [], [.row g1000 2 1 51 (fun _ => [aM g42 0 g1000, .own 1 g42 0 v40.af.aq.length]), .row g42 1 v40.af.aq.length 5 (row cB v40.af.aq), .row 0 4 1 29 (fun _ => a1.lit), .row g43 1 ([[36], a1.aj] : List ar).length 9 (row cS ([[36], a1.aj] : List ar))], rfl, atv, ?_⟩
 obtain rfl := si h
 exact en [0, 1] ⟨g42, rfl, rfl⟩ (.br ⟨⟩) ⟨(ob rfl ⟨.aM, .o, ⟨⟩⟩), od, ⟨⟩⟩
 refine .d (sE h (fun apk h => ?_) (fun apk h => ?_))
 refine ⟨rfl, _, rfl, (bk h fun KX ZI h => (cH (Z8 _ _ _ ZI _ _) [0, 1] ⟨cw, ov, ⟨⟩⟩ (fun KY => .aV []) (fun KY => [.row g1000 2 1 51 (fun _ => [aM KY 0 g1000, .own 1 KY 0 KX.af.aq.length]), .row KY 1 KX.af.aq.length 5 (row cB KX.af.aq), .row 0 4 1 29 (fun _ => a1.lit)]) fun KY => ?_))⟩
 obtain rfl := si h
 exact en [0, 1] ⟨KY, rfl, rfl⟩ (.br ⟨⟩) ⟨(ob rfl ⟨.aM, .o, ⟨⟩⟩), od, ⟨⟩⟩
 refine .d (sE h (fun Yn h => ?_) (fun Yn h => ?_))
 refine .d ⟨rfl, ⟨rfl, _, rfl, (bk h fun x49 IU h => ⟨aA IU, _, (ax IU).trans (ae.au x49), (bk h fun v51 apl h => (cH (km _ _ _ _ apl _ _) [0, 1] ⟨cw, ov, ⟨⟩⟩ (fun g53 => .aV []) (fun g53 => [.row g1000 2 1 51 (fun _ => [aM g53 0 g1000, .own 1 g53 0 v51.af.aq.length]), .row g53 1 v51.af.aq.length 5 (row cB v51.af.aq), .row 0 4 1 29 (fun _ => a1.lit)]) fun g53 => (.d ⟨row cS ([[91]] : List ar), aC cS ([[91]] : List ar) rfl (aB rfl), (bk h fun T5 aaa h => (cm (aw (g1000 := g1000) (g1001 := g53) (g1002 := 0) aaa) [0, 1, 3] ⟨cw, ov, ov, ⟨⟩⟩ ?_))⟩)))⟩)⟩⟩
 rintro _ _ ⟨g56, g57, rfl, rfl⟩
 refine ⟨.aV [], [.row g1000 2 1 51 (fun _ => [aM g56 0 g1000, .own 1 g56 0 T5.af.aq.length]), .row g56 1 T5.af.aq.length 5 (row cB T5.af.aq), .row 0 4 1 29 (fun _ => a1.lit), .row g57 1 ([[91]] : List ar).length 9 (row cS ([[91]] : List ar))], rfl, atv, (.d ⟨rfl, ⟨rfl, _, rfl, (bk h fun x58 ajl h => ⟨aA ajl, _, (ax ajl).trans (ae.au x58), (bk h fun T6 aab h => (cH (km _ _ _ _ aab _ _) [0, 1] ⟨cw, ov, ⟨⟩⟩ (fun g62 => .aV []) (fun g62 => [.row g1000 2 1 51 (fun _ => [aM g62 0 g1000, .own 1 g62 0 T6.af.aq.length]), .row g62 1 T6.af.aq.length 5 (row cB T6.af.aq), .row 0 4 1 29 (fun _ => a1.lit), .row g57 1 ([[91]] : List ar).length 9 (row cS ([[91]] : List ar))]) fun g62 => ⟨row cS ([[93]] : List ar), aC cS ([[93]] : List ar) rfl (aB rfl), (bk h fun Jp JD h => (cm (aw (g1000 := g1000) (g1001 := g62) (g1002 := 0) JD) [0, 1, 4] ⟨cw, ov, ov, ⟨⟩⟩ ?_))⟩))⟩)⟩⟩)⟩
 rintro _ _ ⟨g65, g66, rfl, rfl⟩
 refine ⟨.aV [], [.row g1000 2 1 51 (fun _ => [aM g65 0 g1000, .own 1 g65 0 Jp.af.aq.length]), .row g65 1 Jp.af.aq.length 5 (row cB Jp.af.aq), .row 0 4 1 29 (fun _ => a1.lit), .row g57 1 ([[91]] : List ar).length 9 (row cS ([[91]] : List ar)), .row g66 1 ([[93]] : List ar).length 9 (row cS ([[93]] : List ar))], rfl, atv, ?_⟩
 obtain rfl := si h
 exact en [0, 1] ⟨g65, rfl, rfl⟩ (.br ⟨⟩) ⟨(ob rfl ⟨.aM, .o, ⟨⟩⟩), od, ⟨⟩⟩
 refine .d (sE h (fun apm h => ?_) (fun apm h => ?_))
 refine .d ⟨rfl, ⟨rfl, _, rfl, (bk h fun x68 ajm h => ⟨aA ajm, _, (ax ajm).trans (ae.au x68), (bk h fun v70 apn h => (cH (km _ _ _ _ apn _ _) [0, 1] ⟨cw, ov, ⟨⟩⟩ (fun g72 => .aV []) (fun g72 => [.row g1000 2 1 51 (fun _ => [aM g72 0 g1000, .own 1 g72 0 v70.af.aq.length]), .row g72 1 v70.af.aq.length 5 (row cB v70.af.aq), .row 0 4 1 29 (fun _ => a1.lit)]) fun g72 => ⟨rfl, ⟨rfl, _, rfl, ⟨row cS ([[45, 62], a1.aj] : List ar), aC cS ([[45, 62], a1.aj] : List ar) rfl (aB rfl), (bk h fun v73 apo h => (cm (aw (g1000 := g1000) (g1001 := g72) (g1002 := 0) apo) [0, 1, 3] ⟨cw, ov, ov, ⟨⟩⟩ ?_))⟩⟩⟩))⟩)⟩⟩
 rintro _ _ ⟨g75, g76, rfl, rfl⟩
 refine ⟨.aV [], [.row g1000 2 1 51 (fun _ => [aM g75 0 g1000, .own 1 g75 0 v73.af.aq.length]), .row g75 1 v73.af.aq.length 5 (row cB v73.af.aq), .row 0 4 1 29 (fun _ => a1.lit), .row g76 1 ([[45, 62], a1.aj] : List ar).length 9 (row cS ([[45, 62], a1.aj] : List ar))], rfl, atv, ?_⟩
 obtain rfl := si h
 exact en [0, 1] ⟨g75, rfl, rfl⟩ (.br ⟨⟩) ⟨(ob rfl ⟨.aM, .o, ⟨⟩⟩), od, ⟨⟩⟩
 refine .d (sE h (fun VW h => ?_) (fun VW h => ?_))
 refine .d ⟨row cS ([[], [33], [45]] : List ar), aC cS ([[], [33], [45]] : List ar) rfl (aB rfl), ⟨rfl, ⟨rfl, _, rfl, (bk h fun T7 ajn h => ⟨rfl, aA ajn, _, are _, ⟨rfl, _, ((ax ajn).trans rfl), ⟨row cS ([T7] : List ar), aC cS ([T7] : List ar) rfl (aB rfl), (bk h fun v80 apq h => (cm (aw (g1000 := g1000) (g1001 := g1001) (g1002 := 0) apq) [0, 1, 4] ⟨cw, ov, ov, ⟨⟩⟩ ?_))⟩⟩⟩)⟩⟩⟩
 rintro _ _ ⟨g82, g83, rfl, rfl⟩
 refine ⟨.aV [], [.row g1000 2 1 51 (fun _ => [aM g82 0 g1000, .own 1 g82 0 v80.af.aq.length]), .row g82 1 v80.af.aq.length 5 (row cB v80.af.aq), .row 0 4 1 29 (fun _ => a1.lit), .row 0 1 ([[], [33], [45]] : List ar).length 9 (row cS ([[], [33], [45]] : List ar)), .row g83 1 ([T7] : List ar).length 9 (row cS ([T7] : List ar))], rfl, atv, ⟨rfl, ⟨rfl, _, rfl, (bk h fun x84 IV h => ⟨aA IV, _, (ax IV).trans (ae.au x84), (bk h fun v86 apr h => (cH (km _ _ _ _ apr _ _) [0, 1] ⟨cw, ov, ⟨⟩⟩ (fun g88 => .aV []) (fun g88 => [.row g1000 2 1 51 (fun _ => [aM g88 0 g1000, .own 1 g88 0 v86.af.aq.length]), .row g88 1 v86.af.aq.length 5 (row cB v86.af.aq), .row 0 4 1 29 (fun _ => a1.lit), .row 0 1 ([[], [33], [45]] : List ar).length 9 (row cS ([[], [33], [45]] : List ar)), .row g83 1 ([T7] : List ar).length 9 (row cS ([T7] : List ar))]) fun g88 => ?_))⟩)⟩⟩⟩
 obtain rfl := si h
 exact en [0, 1] ⟨g88, rfl, rfl⟩ (.br ⟨⟩) ⟨(ob rfl ⟨.aM, .o, ⟨⟩⟩), od, ⟨⟩⟩
 refine .d (sE h (fun YX h => ?_) (fun YX h => ?_))
 refine .d ⟨rfl, ⟨rfl, _, rfl, (bk h fun v90 YY h => (aS (rX YY) (.float [(0, true), (1, true), (2, true), (3, true), (4, true), (8, true), (9, true), (5, false), (6, true), (7, true), (10, false)] atE ?_)))⟩⟩
 refine ⟨rfl, _, rfl, ⟨rfl, ⟨rfl, _, rfl, (bk h fun v92 aps h => (aS (xe aps) ⟨rfl, (bk h fun s94 ajo h => ⟨ay ajo, s94, az ajo, (bk h fun s96 IW h => ⟨ay IW, s96, az IW, (bk h fun Q2 Yq h => (cH (qG _ _ _ _ _ _ Yq _ _) [0, 1] ⟨cw, ov, ⟨⟩⟩ (fun FH => .aV []) (fun FH => [.row g1000 2 1 51 (fun _ => [aM FH 0 g1000, .own 1 FH 0 Q2.af.aq.length]), .row FH 1 Q2.af.aq.length 5 (row cB Q2.af.aq), .row 0 4 1 29 (fun _ => a1.lit)]) fun FH => ?_))⟩)⟩)⟩))⟩⟩⟩
 obtain rfl := si h
 exact en [0, 1] ⟨FH, rfl, rfl⟩ (.br ⟨⟩) ⟨(ob rfl ⟨.aM, .o, ⟨⟩⟩), od, ⟨⟩⟩
 refine .d (sE h (fun HJ h => ?_) (fun HJ h => ?_))
 refine ⟨rfl, _, rfl, (bk h fun K1 ajp h => (cH (qG _ _ _ _ _ _ ajp _ _) [0, 1] ⟨cw, ov, ⟨⟩⟩ (fun FI => .aV []) (fun FI => [.row g1000 2 1 51 (fun _ => [aM FI 0 g1000, .own 1 FI 0 K1.af.aq.length]), .row FI 1 K1.af.aq.length 5 (row cB K1.af.aq), .row 0 4 1 29 (fun _ => a1.lit)]) fun FI => ?_))⟩
 obtain rfl := si h
 exact en [0, 1] ⟨FI, rfl, rfl⟩ (.br ⟨⟩) ⟨(ob rfl ⟨.aM, .o, ⟨⟩⟩), od, ⟨⟩⟩
 refine .d (sE h (fun JE h => ?_) (fun JE h => ?_))
 refine ⟨rfl, _, rfl, (bk h fun K2 ajq h => (cH (qG _ _ _ _ _ _ ajq _ _) [0, 1] ⟨cw, ov, ⟨⟩⟩ (fun FJ => .aV []) (fun FJ => [.row g1000 2 1 51 (fun _ => [aM FJ 0 g1000, .own 1 FJ 0 K2.af.aq.length]), .row FJ 1 K2.af.aq.length 5 (row cB K2.af.aq), .row 0 4 1 29 (fun _ => a1.lit)]) fun FJ => ?_))⟩
 obtain rfl := si h
 exact en [0, 1] ⟨FJ, rfl, rfl⟩ (.br ⟨⟩) ⟨(ob rfl ⟨.aM, .o, ⟨⟩⟩), od, ⟨⟩⟩
 refine .d (sE h (fun Ad h => ?_) (fun Ad h => ?_))
 refine ⟨rfl, _, rfl, (bk h fun K3 ajr h => (cH (qG _ _ _ _ _ _ ajr _ _) [0, 1] ⟨cw, ov, ⟨⟩⟩ (fun FK => .aV []) (fun FK => [.row g1000 2 1 51 (fun _ => [aM FK 0 g1000, .own 1 FK 0 K3.af.aq.length]), .row FK 1 K3.af.aq.length 5 (row cB K3.af.aq), .row 0 4 1 29 (fun _ => a1.lit)]) fun FK => ?_))⟩
 obtain rfl := si h
 exact en [0, 1] ⟨FK, rfl, rfl⟩ (.br ⟨⟩) ⟨(ob rfl ⟨.aM, .o, ⟨⟩⟩), od, ⟨⟩⟩
 refine .d (sE h (fun ajs h => ?_) (fun ajs h => ?_))
 refine .d ⟨rfl, _, rfl, (bk h fun K4 ajt h => (cH (qG _ _ _ _ _ _ ajt _ _) [0, 1] ⟨cw, ov, ⟨⟩⟩ (fun FL => .aV []) (fun FL => [.row g1000 2 1 51 (fun _ => [aM FL 0 g1000, .own 1 FL 0 K4.af.aq.length]), .row FL 1 K4.af.aq.length 5 (row cB K4.af.aq), .row 0 4 1 29 (fun _ => a1.lit)]) fun FL => (.d ⟨row cS ([[32, 58, 32]] : List ar), aC cS ([[32, 58, 32]] : List ar) rfl (aB rfl), (bk h fun v117 aju h => (cm (aw (g1000 := g1000) (g1001 := FL) (g1002 := 0) aju) [0, 1, 3] ⟨cw, ov, ov, ⟨⟩⟩ ?_))⟩)))⟩
 rintro _ _ ⟨aac, ajv, rfl, rfl⟩
 refine ⟨.aV [], [.row g1000 2 1 51 (fun _ => [aM aac 0 g1000, .own 1 aac 0 v117.af.aq.length]), .row aac 1 v117.af.aq.length 5 (row cB v117.af.aq), .row 0 4 1 29 (fun _ => a1.lit), .row ajv 1 ([[32, 58, 32]] : List ar).length 9 (row cS ([[32, 58, 32]] : List ar))], rfl, atv, ⟨rfl, ⟨rfl, _, rfl, (bk h fun ZJ Uc h => ⟨aA Uc, _, (ax Uc).trans (ae.au ZJ), (bk h fun K5 ajw h => (cH (km _ _ _ _ ajw _ _) [0, 1] ⟨cw, ov, ⟨⟩⟩ (fun FM => .aV []) (fun FM => [.row g1000 2 1 51 (fun _ => [aM FM 0 g1000, .own 1 FM 0 K5.af.aq.length]), .row FM 1 K5.af.aq.length 5 (row cB K5.af.aq), .row 0 4 1 29 (fun _ => a1.lit), .row ajv 1 ([[32, 58, 32]] : List ar).length 9 (row cS ([[32, 58, 32]] : List ar))]) fun FM => ?_))⟩)⟩⟩⟩
 obtain rfl := si h
 exact en [0, 1] ⟨FM, rfl, rfl⟩ (.br ⟨⟩) ⟨(ob rfl ⟨.aM, .o, ⟨⟩⟩), od, ⟨⟩⟩
 refine .d (sE h (fun I1 h => ?_) (fun I1 h => ?_))
 refine ⟨rfl, _, rfl, (bk h fun v127 ajx h => (cH (qG _ _ _ _ _ _ ajx _ _) [0, 1] ⟨cw, ov, ⟨⟩⟩ (fun FN => .aV []) (fun FN => [.row g1000 2 1 51 (fun _ => [aM FN 0 g1000, .own 1 FN 0 v127.af.aq.length]), .row FN 1 v127.af.aq.length 5 (row cB v127.af.aq), .row 0 4 1 29 (fun _ => a1.lit)]) fun FN => ?_))⟩
 obtain rfl := si h
 exact en [0, 1] ⟨FN, rfl, rfl⟩ (.br ⟨⟩) ⟨(ob rfl ⟨.aM, .o, ⟨⟩⟩), od, ⟨⟩⟩
 refine .d (sE h (fun ajy h => ?_) (fun ajy h => ?_))
 refine ⟨rfl, _, rfl, (bk h fun v131 It h => (cH (qG _ _ _ _ _ _ It _ _) [0, 1] ⟨cw, ov, ⟨⟩⟩ (fun FO => .aV []) (fun FO => [.row g1000 2 1 51 (fun _ => [aM FO 0 g1000, .own 1 FO 0 v131.af.aq.length]), .row FO 1 v131.af.aq.length 5 (row cB v131.af.aq), .row 0 4 1 29 (fun _ => a1.lit)]) fun FO => ?_))⟩
 obtain rfl := si h
 exact en [0, 1] ⟨FO, rfl, rfl⟩ (.br ⟨⟩) ⟨(ob rfl ⟨.aM, .o, ⟨⟩⟩), od, ⟨⟩⟩
 refine .d (sE h (fun JF h => ?_) (fun JF h => ?_))
 refine .float [(0, true), (1, true), (2, true), (3, true), (4, true), (5, true), (6, true), (7, true), (8, false), (9, false)] atE ?_
 refine ⟨rfl, ⟨rfl, _, rfl, ⟨rfl, ⟨rfl, _, rfl, (bk h fun CR Ax h => ⟨aA Ax, _, (ax Ax).trans (ae.au CR), ⟨row cS ([[36], a1.aj, [32, 61, 32, 38, 36], CR.aj] : List ar), aC cS ([[36], a1.aj, [32, 61, 32, 38, 36], CR.aj] : List ar) rfl (aB rfl), (bk h fun K6 ajz h => (cm (aw (g1000 := g1000) (g1001 := g1001) (g1002 := 0) ajz) [0, 1, 3] ⟨cw, ov, ov, ⟨⟩⟩ ?_))⟩⟩)⟩⟩⟩⟩
 rintro _ _ ⟨Ph, apt, rfl, rfl⟩
 refine ⟨.aV [], [.row g1000 2 1 51 (fun _ => [aM Ph 0 g1000, .own 1 Ph 0 K6.af.aq.length]), .row Ph 1 K6.af.aq.length 5 (row cB K6.af.aq), .row 0 4 1 29 (fun _ => a1.lit), .row apt 1 ([[36], a1.aj, [32, 61, 32, 38, 36], CR.aj] : List ar).length 9 (row cS ([[36], a1.aj, [32, 61, 32, 38, 36], CR.aj] : List ar))], rfl, atv, ?_⟩
 obtain rfl := si h
 exact en [0, 1] ⟨Ph, rfl, rfl⟩ (.br ⟨⟩) ⟨(ob rfl ⟨.aM, .o, ⟨⟩⟩), od, ⟨⟩⟩
 obtain ⟨apu, ajA, ajB⟩ := bd h
 replace h := ajA
 refine .cut (fun σ η => ∃ K7, K7 = apu ∧ σ = [(0, .aL 0 g1000 0 0), (3, .aL 2 0 0 0), (6, .int .i64 a1.ai), (161, .bool K7)] ∧ η = [.row g1000 2 1 51 (fun _ => [aM g1001 0 g1000, .own 1 g1001 0 a0.af.aq.length]), .row g1001 1 a0.af.aq.length 5 (row cB a0.af.aq), .row 0 4 1 29 (fun _ => a1.lit)]) ?_ ?_
 refine .d (sE h (fun JG h => ?_) (fun JG h => ?_))
 exact ct ⟨_, si h, rfl, rfl⟩ (tk [0, 1, 2] ⟨.p, .p, .i, .b, ⟨⟩⟩ ⟨(ob rfl ⟨.aM, .o, ⟨⟩⟩), od, (cF rfl), ⟨⟩⟩)
 exact ct ⟨_, si h, rfl, rfl⟩ (tk [0, 1, 2] ⟨.p, .p, .i, .b, ⟨⟩⟩ ⟨(ob rfl ⟨.aM, .o, ⟨⟩⟩), od, (cF rfl), ⟨⟩⟩)
 rintro _ _ ⟨K7, rfl, rfl, rfl⟩
 replace h := ajB
 refine sV h (fun Ae h => ?_) (fun Ae h => ?_)
 refine .d ⟨rfl, ⟨rfl, _, rfl, ⟨row cS ([a1.aj] : List ar), aC cS ([a1.aj] : List ar) rfl (aB rfl), (bk h fun AQ JH h => (cm (aw (g1000 := g1000) (g1001 := g1001) (g1002 := 0) JH) [0, 1, 3] ⟨cw, ov, ov, ⟨⟩⟩ ?_))⟩⟩⟩
 rintro _ _ ⟨aad, ajC, rfl, rfl⟩
 refine ⟨.aV [], [.row g1000 2 1 51 (fun _ => [aM aad 0 g1000, .own 1 aad 0 AQ.af.aq.length]), .row aad 1 AQ.af.aq.length 5 (row cB AQ.af.aq), .row 0 4 1 29 (fun _ => a1.lit), .row ajC 1 ([a1.aj] : List ar).length 9 (row cS ([a1.aj] : List ar))], rfl, atv, ⟨rfl, ⟨rfl, _, rfl, (bk h fun K8 ajD h => (cH (vO _ _ _ ajD _ _) [0, 1] ⟨cw, ov, ⟨⟩⟩ (fun FP => .aV []) (fun FP => [.row g1000 2 1 51 (fun _ => [aM FP 0 g1000, .own 1 FP 0 K8.af.aq.length]), .row FP 1 K8.af.aq.length 5 (row cB K8.af.aq), .row 0 4 1 29 (fun _ => a1.lit), .row ajC 1 ([a1.aj] : List ar).length 9 (row cS ([a1.aj] : List ar))]) fun FP => ?_))⟩⟩⟩
 obtain rfl := si h
 exact en [0, 1] ⟨FP, rfl, rfl⟩ (.br ⟨⟩) ⟨(ob rfl ⟨.aM, .o, ⟨⟩⟩), od, ⟨⟩⟩
 refine .d (sE h (fun Af h => ?_) (fun Af h => ?_))
 refine .d ⟨rfl, ⟨rfl, _, rfl, ⟨row cS ([[110, 101, 119, 32], a1.aj] : List ar), aC cS ([[110, 101, 119, 32], a1.aj] : List ar) rfl (aB rfl), (bk h fun uV Ay h => (cm (aw (g1000 := g1000) (g1001 := g1001) (g1002 := 0) Ay) [0, 1, 3] ⟨cw, ov, ov, ⟨⟩⟩ ?_))⟩⟩⟩
 rintro _ _ ⟨aae, ajE, rfl, rfl⟩
 refine ⟨.aV [], [.row g1000 2 1 51 (fun _ => [aM aae 0 g1000, .own 1 aae 0 uV.af.aq.length]), .row aae 1 uV.af.aq.length 5 (row cB uV.af.aq), .row 0 4 1 29 (fun _ => a1.lit), .row ajE 1 ([[110, 101, 119, 32], a1.aj] : List ar).length 9 (row cS ([[110, 101, 119, 32], a1.aj] : List ar))], rfl, atv, ⟨rfl, ⟨rfl, _, rfl, (bk h fun v159 HQ h => (cH (vO _ _ _ HQ _ _) [0, 1] ⟨cw, ov, ⟨⟩⟩ (fun FQ => .aV []) (fun FQ => [.row g1000 2 1 51 (fun _ => [aM FQ 0 g1000, .own 1 FQ 0 v159.af.aq.length]), .row FQ 1 v159.af.aq.length 5 (row cB v159.af.aq), .row 0 4 1 29 (fun _ => a1.lit), .row ajE 1 ([[110, 101, 119, 32], a1.aj] : List ar).length 9 (row cS ([[110, 101, 119, 32], a1.aj] : List ar))]) fun FQ => ?_))⟩⟩⟩
 obtain rfl := si h
 exact en [0, 1] ⟨FQ, rfl, rfl⟩ (.br ⟨⟩) ⟨(ob rfl ⟨.aM, .o, ⟨⟩⟩), od, ⟨⟩⟩
 refine .d (sE h (fun Ag h => ?_) (fun Ag h => ?_))
 refine .d ⟨rfl, ⟨rfl, _, rfl, (bk h fun ZK Ud h => ⟨aA Ud, _, (ax Ud).trans (ae.au ZK), (bk h fun uQ Ah h => (cH (km _ _ _ _ Ah _ _) [0, 1] ⟨cw, ov, ⟨⟩⟩ (fun FR => .aV []) (fun FR => [.row g1000 2 1 51 (fun _ => [aM FR 0 g1000, .own 1 FR 0 uQ.af.aq.length]), .row FR 1 uQ.af.aq.length 5 (row cB uQ.af.aq), .row 0 4 1 29 (fun _ => a1.lit)]) fun FR => (.d ⟨rfl, ⟨rfl, _, rfl, ⟨row cS ([[45, 62], a1.aj] : List ar), aC cS ([[45, 62], a1.aj] : List ar) rfl (aB rfl), (bk h fun v168 Ai h => (cm (aw (g1000 := g1000) (g1001 := FR) (g1002 := 0) Ai) [0, 1, 3] ⟨cw, ov, ov, ⟨⟩⟩ ?_))⟩⟩⟩)))⟩)⟩⟩
 rintro _ _ ⟨aaf, ajF, rfl, rfl⟩
 refine ⟨.aV [], [.row g1000 2 1 51 (fun _ => [aM aaf 0 g1000, .own 1 aaf 0 v168.af.aq.length]), .row aaf 1 v168.af.aq.length 5 (row cB v168.af.aq), .row 0 4 1 29 (fun _ => a1.lit), .row ajF 1 ([[45, 62], a1.aj] : List ar).length 9 (row cS ([[45, 62], a1.aj] : List ar))], rfl, atv, ⟨rfl, ⟨rfl, _, rfl, (bk h fun Pd L3 h => ⟨trivial, gU L3, Pd.length, row ae.cells Pd, fK L3, fL L3, (bk h fun Ab HV h => (cH (vO _ _ _ HV _ _) [0, 1] ⟨cw, ov, ⟨⟩⟩ (fun FT => .aV []) (fun FT => [.row g1000 2 1 51 (fun _ => [aM FT 0 g1000, .own 1 FT 0 Ab.af.aq.length]), .row FT 1 Ab.af.aq.length 5 (row cB Ab.af.aq), .row 0 4 1 29 (fun _ => a1.lit), .row ajF 1 ([[45, 62], a1.aj] : List ar).length 9 (row cS ([[45, 62], a1.aj] : List ar))]) fun FT => ?_))⟩)⟩⟩⟩
 obtain rfl := si h
 exact en [0, 1] ⟨FT, rfl, rfl⟩ (.br ⟨⟩) ⟨(ob rfl ⟨.aM, .o, ⟨⟩⟩), od, ⟨⟩⟩
 refine .d (sE h (fun ajG h => ?_) (fun ajG h => ?_))
 refine .d (.d ⟨rfl, ⟨rfl, _, rfl, (bk h fun ZL Ue h => ⟨aA Ue, _, (ax Ue).trans (ae.au ZL), (sE h (fun Aj h => ?_) (fun Aj h => ?_))⟩)⟩⟩)
 refine ⟨rfl, ⟨rfl, _, rfl, (bk h fun qu AW h => ⟨aA AW, _, (ax AW).trans (ae.au qu), (bk h fun v183 JW h => (cH (km _ _ _ _ JW _ _) [0, 1] ⟨cw, ov, ⟨⟩⟩ (fun L4 => .aV []) (fun L4 => [.row g1000 2 1 51 (fun _ => [aM L4 0 g1000, .own 1 L4 0 v183.af.aq.length]), .row L4 1 v183.af.aq.length 5 (row cB v183.af.aq), .row 0 4 1 29 (fun _ => a1.lit)]) fun L4 => ⟨rfl, ⟨rfl, _, rfl, (bk h fun Pe xA h => ⟨trivial, gU xA, Pe.length, row ae.cells Pe, fK xA, fL xA, (bk h fun K9 ajH h => (cH (vO _ _ _ ajH _ _) [0, 1] ⟨cw, ov, ⟨⟩⟩ (fun FU => .aV []) (fun FU => [.row g1000 2 1 51 (fun _ => [aM FU 0 g1000, .own 1 FU 0 K9.af.aq.length]), .row FU 1 K9.af.aq.length 5 (row cB K9.af.aq), .row 0 4 1 29 (fun _ => a1.lit)]) fun FU => ?_))⟩)⟩⟩))⟩)⟩⟩
 obtain rfl := si h
 exact en [0, 1] ⟨FU, rfl, rfl⟩ (.br ⟨⟩) ⟨(ob rfl ⟨.aM, .o, ⟨⟩⟩), od, ⟨⟩⟩
 refine ⟨rfl, ⟨rfl, _, rfl, (bk h fun ZM Uf h => ⟨aA Uf, _, (ax Uf).trans (ae.au ZM), (bk h fun v193 ajI h => (cH (km _ _ _ _ ajI _ _) [0, 1] ⟨cw, ov, ⟨⟩⟩ (fun L5 => .aV []) (fun L5 => [.row g1000 2 1 51 (fun _ => [aM L5 0 g1000, .own 1 L5 0 v193.af.aq.length]), .row L5 1 v193.af.aq.length 5 (row cB v193.af.aq), .row 0 4 1 29 (fun _ => a1.lit)]) fun L5 => ⟨rfl, ⟨rfl, _, rfl, (bk h fun Pf L6 h => ⟨trivial, gU L6, Pf.length, row ae.cells Pf, fK L6, fL L6, (bk h fun v198 ajJ h => (cH (vO _ _ _ ajJ _ _) [0, 1] ⟨cw, ov, ⟨⟩⟩ (fun FV => .aV []) (fun FV => [.row g1000 2 1 51 (fun _ => [aM FV 0 g1000, .own 1 FV 0 v198.af.aq.length]), .row FV 1 v198.af.aq.length 5 (row cB v198.af.aq), .row 0 4 1 29 (fun _ => a1.lit)]) fun FV => ?_))⟩)⟩⟩))⟩)⟩⟩
 obtain rfl := si h
 exact en [0, 1] ⟨FV, rfl, rfl⟩ (.br ⟨⟩) ⟨(ob rfl ⟨.aM, .o, ⟨⟩⟩), od, ⟨⟩⟩
 refine .d (sE h (fun I7 h => ?_) (fun I7 h => ?_))
 refine ⟨rfl, _, rfl, (bk h fun La ajK h => (cH (Z7 _ _ _ ajK _ _) [0, 1] ⟨cw, ov, ⟨⟩⟩ (fun FW => .aV []) (fun FW => [.row g1000 2 1 51 (fun _ => [aM FW 0 g1000, .own 1 FW 0 La.af.aq.length]), .row FW 1 La.af.aq.length 5 (row cB La.af.aq), .row 0 4 1 29 (fun _ => a1.lit)]) fun FW => ?_))⟩
 obtain rfl := si h
 exact en [0, 1] ⟨FW, rfl, rfl⟩ (.br ⟨⟩) ⟨(ob rfl ⟨.aM, .o, ⟨⟩⟩), od, ⟨⟩⟩
 obtain rfl := si h
 exact en [0, 1] ⟨g1001, rfl, rfl⟩ (.br ⟨⟩) ⟨(ob rfl ⟨.aM, .o, ⟨⟩⟩), od, ⟨⟩⟩
 intro _ pc a0 a1 r h g1000 g1001
 refine gd Tryz.func157 ?_
 refine .d (.d ⟨row cS ([[102, 117, 110, 99, 116, 105, 111, 110, 32]] : List ar), aC cS ([[102, 117, 110, 99, 116, 105, 111, 110, 32]] : List ar) rfl (aB rfl), (bk h fun Ld ajL h => (cm (aw (g1000 := g1000) (g1001 := g1001) (g1002 := 0) ajL) [0, 1, 3] ⟨cw, ov, ov, ⟨⟩⟩ ?_))⟩)
 rintro _ _ ⟨Pj, ajM, rfl, rfl⟩
 refine ⟨.aV [], [.row g1000 2 1 51 (fun _ => [aM Pj 0 g1000, .own 1 Pj 0 Ld.af.aq.length]), .row Pj 1 Ld.af.aq.length 5 (row cB Ld.af.aq), .row 0 4 1 29 (fun _ => a1.lit), .row ajM 1 ([[102, 117, 110, 99, 116, 105, 111, 110, 32]] : List ar).length 9 (row cS ([[102, 117, 110, 99, 116, 105, 111, 110, 32]] : List ar))], rfl, atv, (.d ⟨rfl, ⟨rfl, _, rfl, (bk h fun nz AB h => (cH (jJ (g1000 := g1000) (g1001 := Pj) AB) [0, 1] ⟨cw, ov, ⟨⟩⟩ (fun xf => .aV []) (fun xf => [.row g1000 2 1 51 (fun _ => [aM xf 0 g1000, .own 1 xf 0 nz.af.aq.length]), .row xf 1 nz.af.aq.length 5 (row cB nz.af.aq), .row 0 4 1 29 (fun _ => a1.lit), .row ajM 1 ([[102, 117, 110, 99, 116, 105, 111, 110, 32]] : List ar).length 9 (row cS ([[102, 117, 110, 99, 116, 105, 111, 110, 32]] : List ar))]) fun xf => ?_))⟩⟩)⟩
 obtain ⟨aag, ajN, ajO⟩ := bd h
 replace h := ajN
 refine .cut (fun σ η => ∃ CU, ∃ L7 : Nat, CU = aag ∧ σ = [(0, .aL 0 g1000 0 0), (3, .aL 2 0 0 0)] ∧ η = [.row g1000 2 1 51 (fun _ => [aM L7 0 g1000, .own 1 L7 0 CU.length]), .row L7 1 CU.length 5 (row cB CU), .row 0 4 1 29 (fun _ => a1.lit)]) ?_ ?_
 refine .d ⟨rfl, ⟨rfl, _, rfl, ?_⟩⟩
 refine le (bG.partial_correctness a1 nz (motive := fun Fy AS => aag = AS → aG _ _ [(0, .aL 0 g1000 0 0), (3, .aL 2 0 0 0), (14, sl 4 ae.cells a1.ah), (15, .int .i64 (a1.ah.length : Int)), (16, .int .i64 Fy)] [.row g1000 2 1 51 (fun _ => [aM xf 0 g1000, .own 1 xf 0 nz.af.aq.length]), .row xf 1 nz.af.aq.length 5 (row cB nz.af.aq), .row 0 4 1 29 (fun _ => a1.lit)]) ?_ 0 aag h rfl) (tk [0, 1, 2] ⟨.p, .p, .l, .i, .i, ⟨⟩⟩ ⟨(ob rfl ⟨.aM, .o, ⟨⟩⟩), od, (cF rfl), ⟨⟩⟩)
 intro aqO ajP Fy AS h ajQ
 subst ajQ
 refine aG.round (.d (.d (sD h (fun ajR h => ?_) (fun ajR h => ?_))))
 refine .d (.d (bk h fun zg Ug h => ⟨aA Ug, _, (ax Ug).trans (ae.au zg), ⟨rfl, _, fun _ => [.int .i64 zg.ai, .int .i64 zg.aD, .str zg.aj, sl 4 ae.cells zg.ah], rfl, bX rfl, (.d ⟨rfl, ⟨rfl, _, rfl, (sE h (fun JO h => ?_) (fun JO h => ?_))⟩⟩)⟩⟩))
 refine .d ⟨row cS ([[32, 117, 115, 101, 32]] : List ar), aC cS ([[32, 117, 115, 101, 32]] : List ar) rfl (aB rfl), (bk h fun KZ ajS h => (cm (aw (g1000 := g1000) (g1001 := xf) (g1002 := 0) ajS) [0, 1, 4] ⟨cw, ov, ov, ⟨⟩⟩ ?_))⟩
 rintro _ _ ⟨Pk, ajT, rfl, rfl⟩
 exact ⟨.aV [], [.row g1000 2 1 51 (fun _ => [aM Pk 0 g1000, .own 1 Pk 0 KZ.af.aq.length]), .row Pk 1 KZ.af.aq.length 5 (row cB KZ.af.aq), .row 0 4 1 29 (fun _ => a1.lit), .row 0 4 1 29 (fun _ => zg.lit), .row ajT 1 ([[32, 117, 115, 101, 32]] : List ar).length 9 (row cS ([[32, 117, 115, 101, 32]] : List ar))], rfl, atv, (.d ⟨rfl, ⟨rfl, _, rfl, (bk h fun K0 ajU h => (cH (jJ (g1000 := g1000) (g1001 := Pk) ajU) [0, 1] ⟨cw, ov, ⟨⟩⟩ (fun FX => .aV []) (fun FX => [.row g1000 2 1 51 (fun _ => [aM FX 0 g1000, .own 1 FX 0 K0.af.aq.length]), .row FX 1 K0.af.aq.length 5 (row cB K0.af.aq), .row 0 4 1 29 (fun _ => a1.lit), .row 0 4 1 29 (fun _ => zg.lit), .row ajT 1 ([[32, 117, 115, 101, 32]] : List ar).length 9 (row cS ([[32, 117, 115, 101, 32]] : List ar))]) fun FX => (ct ⟨_, FX, si h, rfl, rfl⟩ (tk [0, 1, 2] ⟨.p, .p, ⟨⟩⟩ ⟨(ob rfl ⟨.aM, .o, ⟨⟩⟩), od, (cF rfl), ⟨⟩⟩))))⟩⟩)⟩
 exact lg (ajP _ _ h rfl) (tk [0, 1, 2] ⟨.p, .p, .l, .i, .i, ⟨⟩⟩ ⟨(ob rfl ⟨.aM, .o, ⟨⟩⟩), od, (cF rfl), ⟨⟩⟩)
 exact ct ⟨_, xf, si h, rfl, rfl⟩ (tk [0, 1, 2] ⟨.p, .p, ⟨⟩⟩ ⟨(ob rfl ⟨.aM, .o, ⟨⟩⟩), od, (cF rfl), ⟨⟩⟩)
 rintro _ _ ⟨CU, L7, rfl, rfl, rfl⟩
 replace h := ajO
 refine .d ⟨row cS ([[32]] : List ar), aC cS ([[32]] : List ar) rfl (aB rfl), (bk h fun Le ajV h => (cm (aw (g1000 := g1000) (g1001 := L7) (g1002 := 0) ajV) [0, 1, 3] ⟨cw, ov, ov, ⟨⟩⟩ ?_))⟩
 rintro _ _ ⟨aah, ajW, rfl, rfl⟩
 refine ⟨.aV [], [.row g1000 2 1 51 (fun _ => [aM aah 0 g1000, .own 1 aah 0 Le.af.aq.length]), .row aah 1 Le.af.aq.length 5 (row cB Le.af.aq), .row 0 4 1 29 (fun _ => a1.lit), .row ajW 1 ([[32]] : List ar).length 9 (row cS ([[32]] : List ar))], rfl, atv, ⟨rfl, ⟨rfl, _, rfl, ⟨rfl, ⟨rfl, _, rfl, (bk h fun ZP Uh h => ⟨aA Uh, _, (ax Uh).trans (ae.au ZP), (bk h fun Lf ajX h => (cH (pc _ _ _ ajX _ _) [0, 1] ⟨cw, ov, ⟨⟩⟩ (fun FY => .aV []) (fun FY => [.row g1000 2 1 51 (fun _ => [aM FY 0 g1000, .own 1 FY 0 Lf.af.aq.length]), .row FY 1 Lf.af.aq.length 5 (row cB Lf.af.aq), .row 0 4 1 29 (fun _ => a1.lit), .row ajW 1 ([[32]] : List ar).length 9 (row cS ([[32]] : List ar))]) fun FY => ?_))⟩)⟩⟩⟩⟩⟩
 obtain rfl := si h
 exact en [0, 1] ⟨FY, rfl, rfl⟩ (.br ⟨⟩) ⟨(ob rfl ⟨.aM, .o, ⟨⟩⟩), od, ⟨⟩⟩
 intro _ ajY a0 a1 r h g1000 g1001
 refine gd Tryz.func42 ?_
 refine .d (.d ⟨row cS ([[123, 32]] : List ar), aC cS ([[123, 32]] : List ar) rfl (aB rfl), (bk h fun FB ajZ h => (cm (aw (g1000 := g1000) (g1001 := g1001) (g1002 := 0) ajZ) [0, 1, 3] ⟨cw, ov, ov, ⟨⟩⟩ ?_))⟩)
 rintro _ _ ⟨Pl, apv, rfl, rfl⟩
 refine ⟨.aV [], [.row g1000 2 1 51 (fun _ => [aM Pl 0 g1000, .own 1 Pl 0 FB.af.aq.length]), .row Pl 1 FB.af.aq.length 5 (row cB FB.af.aq), .row 0 4 1 29 (fun _ => a1.lit), .row apv 1 ([[123, 32]] : List ar).length 9 (row cS ([[123, 32]] : List ar))], rfl, atv, ?_⟩
 obtain ⟨aai, aj0, aj1⟩ := bd h
 replace h := aj0
 refine .cut (fun σ η => ∃ CV, ∃ L8 : Nat, CV = aai ∧ σ = [(0, .aL 0 g1000 0 0)] ∧ η = [.row g1000 2 1 51 (fun _ => [aM L8 0 g1000, .own 1 L8 0 CV.length]), .row L8 1 CV.length 5 (row cB CV)]) ?_ ?_
 refine .d ⟨rfl, ⟨rfl, _, rfl, ?_⟩⟩
 have aj2 := ajY _ _ _ _ h
 refine le (mW (motive := fun aj3 iZ iG aj4 => ∀ L9 : Nat, a1 = aj3 → aai = aj4 → aG _ _ [(0, .aL 0 g1000 0 0), (10, sl 4 ae.cells a1.ah), (11, .int .i64 (a1.ah.length : Int)), (12, .int .i64 iG)] [.row g1000 2 1 51 (fun _ => [aM L9 0 g1000, .own 1 L9 0 iZ.length]), .row L9 1 iZ.length 5 (row cB iZ)]) ?_ a1 FB.af.aq 0 aai aj2 Pl rfl rfl) (tk [0, 1] ⟨.p, .l, .i, .i, ⟨⟩⟩ ⟨(ob rfl ⟨.aM, .o, ⟨⟩⟩), od, ⟨⟩⟩)
 intro _ aj5 _ _ aj3 iZ iG aj4 h aj6 L9 Pm aj7
 subst Pm
 subst aj7
 refine aG.round (.d (.d (sD h (fun Jb h => ?_) (fun Jb h => ?_))))
 refine .d (.d (bk h fun s7 AF h => ⟨aA AF, _, (ax AF).trans (ae.au s7), ⟨rfl, _, fun _ => [.int .i64 s7.ai, .int .i64 s7.aD, .str s7.aj, sl 4 ae.cells s7.ah], rfl, bX rfl, (.d ⟨rfl, _, rfl, (bk h fun zo aj8 h => (cH (aj5 _ _ _ aj8 _ _) [0, 1] ⟨cw, ov, ⟨⟩⟩ (fun FZ => .aV []) (fun FZ => [.row g1000 2 1 51 (fun _ => [aM FZ 0 g1000, .own 1 FZ 0 zo.af.aq.length]), .row FZ 1 zo.af.aq.length 5 (row cB zo.af.aq), .row 0 4 1 29 (fun _ => s7.lit)]) fun FZ => ⟨row cS ([[32]] : List ar), aC cS ([[32]] : List ar) rfl (aB rfl), (bk h fun zp aj9 h => (cm (aw (g1000 := g1000) (g1001 := FZ) (g1002 := 0) aj9) [0, 1, 3] ⟨cw, ov, ov, ⟨⟩⟩ ?_))⟩))⟩)⟩⟩))
 rintro _ _ ⟨Pn, apw, rfl, rfl⟩
 exact ⟨.aV [], [.row g1000 2 1 51 (fun _ => [aM Pn 0 g1000, .own 1 Pn 0 zp.af.aq.length]), .row Pn 1 zp.af.aq.length 5 (row cB zp.af.aq), .row 0 4 1 29 (fun _ => s7.lit), .row apw 1 ([[32]] : List ar).length 9 (row cS ([[32]] : List ar))], rfl, atv, (lg (aj6 _ _ _ _ h Pn rfl rfl) (tk [0, 1] ⟨.p, .l, .i, .i, ⟨⟩⟩ ⟨(ob rfl ⟨.aM, .o, ⟨⟩⟩), od, ⟨⟩⟩))⟩
 exact ct ⟨_, L9, si h, rfl, rfl⟩ (tk [0, 1] ⟨.p, ⟨⟩⟩ ⟨(ob rfl ⟨.aM, .o, ⟨⟩⟩), od, ⟨⟩⟩)
 rintro _ _ ⟨CV, L8, rfl, rfl, rfl⟩
 replace h := aj1
 refine ⟨row cS ([[125]] : List ar), aC cS ([[125]] : List ar) rfl (aB rfl), (bk h fun Lg aka h => (cm (aw (g1000 := g1000) (g1001 := L8) (g1002 := 0) aka) [0, 1, 2] ⟨cw, ov, ov, ⟨⟩⟩ ?_))⟩
 rintro _ _ ⟨Po, apx, rfl, rfl⟩
 refine ⟨.aV [], [.row g1000 2 1 51 (fun _ => [aM Po 0 g1000, .own 1 Po 0 Lg.af.aq.length]), .row Po 1 Lg.af.aq.length 5 (row cB Lg.af.aq), .row apx 1 ([[125]] : List ar).length 9 (row cS ([[125]] : List ar))], rfl, atv, ?_⟩
 obtain rfl := si h
 exact en [0, 1] ⟨Po, rfl, rfl⟩ (.br ⟨⟩) ⟨(ob rfl ⟨.aM, .o, ⟨⟩⟩), od, ⟨⟩⟩
 intro F0 F1 lx ly a1 iZ iG o h
 exact .mk F1 ly F0 lx a1 iZ iG o h
 intro _ _ _ _ _ _ km pc Ui akb xY akc a0 a1 r h g1000 g1001
 refine gd Tryz.func49 ?_
 refine .d (.d ⟨rfl, ⟨rfl, _, rfl, (.d (sE h (fun JQ h => ?_) (fun JQ h => ?_)))⟩⟩)
 refine ⟨rfl, ⟨rfl, _, rfl, ⟨row cS ([[63, 62, 10], a1.aj, [60, 63, 32]] : List ar), aC cS ([[63, 62, 10], a1.aj, [60, 63, 32]] : List ar) rfl (aB rfl), (bk h fun Lj akd h => (cm (aw (g1000 := g1000) (g1001 := g1001) (g1002 := 0) akd) [0, 1, 3] ⟨cw, ov, ov, ⟨⟩⟩ ?_))⟩⟩⟩
 rintro _ _ ⟨Pp, apy, rfl, rfl⟩
 refine ⟨.aV [], [.row g1000 2 1 51 (fun _ => [aM Pp 0 g1000, .own 1 Pp 0 Lj.af.aq.length]), .row Pp 1 Lj.af.aq.length 5 (row cB Lj.af.aq), .row 0 4 1 29 (fun _ => a1.lit), .row apy 1 ([[63, 62, 10], a1.aj, [60, 63, 32]] : List ar).length 9 (row cS ([[63, 62, 10], a1.aj, [60, 63, 32]] : List ar))], rfl, atv, ?_⟩
 obtain rfl := si h
 exact en [0, 1] ⟨Pp, rfl, rfl⟩ (.br ⟨⟩) ⟨(ob rfl ⟨.aM, .o, ⟨⟩⟩), od, ⟨⟩⟩
 refine .d (sE h (fun JR h => ?_) (fun JR h => ?_))
 refine ⟨rfl, ⟨rfl, _, rfl, (bk h fun yP tE h => ⟨aA tE, _, (ax tE).trans (ae.au yP), (bk h fun w4 JS h => (cH (xY _ _ _ _ JS _ _) [0, 1] ⟨cw, ov, ⟨⟩⟩ (fun Ga => .aV []) (fun Ga => [.row g1000 2 1 51 (fun _ => [aM Ga 0 g1000, .own 1 Ga 0 w4.af.aq.length]), .row Ga 1 w4.af.aq.length 5 (row cB w4.af.aq), .row 0 4 1 29 (fun _ => a1.lit)]) fun Ga => ?_))⟩)⟩⟩
 obtain rfl := si h
 exact en [0, 1] ⟨Ga, rfl, rfl⟩ (.br ⟨⟩) ⟨(ob rfl ⟨.aM, .o, ⟨⟩⟩), od, ⟨⟩⟩
 refine .d (sE h (fun ake h => ?_) (fun ake h => ?_))
 refine ⟨rfl, ⟨rfl, _, rfl, (bk h fun ZQ AH h => ⟨aA AH, _, (ax AH).trans (ae.au ZQ), (bk h fun Lk akf h => (cH (xY _ _ _ _ akf _ _) [0, 1] ⟨cw, ov, ⟨⟩⟩ (fun Gb => .aV []) (fun Gb => [.row g1000 2 1 51 (fun _ => [aM Gb 0 g1000, .own 1 Gb 0 Lk.af.aq.length]), .row Gb 1 Lk.af.aq.length 5 (row cB Lk.af.aq), .row 0 4 1 29 (fun _ => a1.lit)]) fun Gb => ?_))⟩)⟩⟩
 obtain rfl := si h
 exact en [0, 1] ⟨Gb, rfl, rfl⟩ (.br ⟨⟩) ⟨(ob rfl ⟨.aM, .o, ⟨⟩⟩), od, ⟨⟩⟩
 refine .d (sE h (fun akg h => ?_) (fun akg h => ?_))
 refine .d ⟨row cS ([[105, 102, 32, 40]] : List ar), aC cS ([[105, 102, 32, 40]] : List ar) rfl (aB rfl), (bk h fun Ll akh h => (cm (aw (g1000 := g1000) (g1001 := g1001) (g1002 := 0) akh) [0, 1, 3] ⟨cw, ov, ov, ⟨⟩⟩ ?_))⟩
 rintro _ _ ⟨aaj, Gc, rfl, rfl⟩
 refine ⟨.aV [], [.row g1000 2 1 51 (fun _ => [aM aaj 0 g1000, .own 1 aaj 0 Ll.af.aq.length]), .row aaj 1 Ll.af.aq.length 5 (row cB Ll.af.aq), .row 0 4 1 29 (fun _ => a1.lit), .row Gc 1 ([[105, 102, 32, 40]] : List ar).length 9 (row cS ([[105, 102, 32, 40]] : List ar))], rfl, atv, (.d ⟨rfl, ⟨rfl, _, rfl, (bk h fun ZR Uj h => ⟨aA Uj, _, (ax Uj).trans (ae.au ZR), (bk h fun Lm aki h => (cH (km _ _ _ _ aki _ _) [0, 1] ⟨cw, ov, ⟨⟩⟩ (fun Gd => .aV []) (fun Gd => [.row g1000 2 1 51 (fun _ => [aM Gd 0 g1000, .own 1 Gd 0 Lm.af.aq.length]), .row Gd 1 Lm.af.aq.length 5 (row cB Lm.af.aq), .row 0 4 1 29 (fun _ => a1.lit), .row Gc 1 ([[105, 102, 32, 40]] : List ar).length 9 (row cS ([[105, 102, 32, 40]] : List ar))]) fun Gd => (.d ⟨row cS ([[41, 32]] : List ar), aC cS ([[41, 32]] : List ar) rfl (aB rfl), (bk h fun Ln akj h => (cm (aw (g1000 := g1000) (g1001 := Gd) (g1002 := 0) akj) [0, 1, 4] ⟨cw, ov, ov, ⟨⟩⟩ ?_))⟩)))⟩)⟩⟩)⟩
 rintro _ _ ⟨aak, Pq, rfl, rfl⟩
 refine ⟨.aV [], [.row g1000 2 1 51 (fun _ => [aM aak 0 g1000, .own 1 aak 0 Ln.af.aq.length]), .row aak 1 Ln.af.aq.length 5 (row cB Ln.af.aq), .row 0 4 1 29 (fun _ => a1.lit), .row Gc 1 ([[105, 102, 32, 40]] : List ar).length 9 (row cS ([[105, 102, 32, 40]] : List ar)), .row Pq 1 ([[41, 32]] : List ar).length 9 (row cS ([[41, 32]] : List ar))], rfl, atv, (.d ⟨rfl, ⟨rfl, _, rfl, (bk h fun ZS Uk h => ⟨aA Uk, _, (ax Uk).trans (ae.au ZS), (bk h fun FC akk h => (cH (pc _ _ _ akk _ _) [0, 1] ⟨cw, ov, ⟨⟩⟩ (fun C8 => .aV []) (fun C8 => [.row g1000 2 1 51 (fun _ => [aM C8 0 g1000, .own 1 C8 0 FC.af.aq.length]), .row C8 1 FC.af.aq.length 5 (row cB FC.af.aq), .row 0 4 1 29 (fun _ => a1.lit), .row Gc 1 ([[105, 102, 32, 40]] : List ar).length 9 (row cS ([[105, 102, 32, 40]] : List ar)), .row Pq 1 ([[41, 32]] : List ar).length 9 (row cS ([[41, 32]] : List ar))]) fun C8 => (.d ⟨rfl, ⟨rfl, _, rfl, (sE h (fun akl h => ?_) (fun akl h => ?_))⟩⟩)))⟩)⟩⟩)⟩
 refine .d ⟨row cS ([[32, 101, 108, 115, 101, 32]] : List ar), aC cS ([[32, 101, 108, 115, 101, 32]] : List ar) rfl (aB rfl), (bk h fun Lo akm h => (cm (aw (g1000 := g1000) (g1001 := C8) (g1002 := 0) akm) [0, 1, 5] ⟨cw, ov, ov, ⟨⟩⟩ ?_))⟩
 rintro _ _ ⟨aal, akn, rfl, rfl⟩
 refine ⟨.aV [], [.row g1000 2 1 51 (fun _ => [aM aal 0 g1000, .own 1 aal 0 Lo.af.aq.length]), .row aal 1 Lo.af.aq.length 5 (row cB Lo.af.aq), .row 0 4 1 29 (fun _ => a1.lit), .row Gc 1 ([[105, 102, 32, 40]] : List ar).length 9 (row cS ([[105, 102, 32, 40]] : List ar)), .row Pq 1 ([[41, 32]] : List ar).length 9 (row cS ([[41, 32]] : List ar)), .row akn 1 ([[32, 101, 108, 115, 101, 32]] : List ar).length 9 (row cS ([[32, 101, 108, 115, 101, 32]] : List ar))], rfl, atv, ⟨rfl, ⟨rfl, _, rfl, (bk h fun ZT Ul h => ⟨aA Ul, _, (ax Ul).trans (ae.au ZT), (bk h fun Lp ako h => (cH (pc _ _ _ ako _ _) [0, 1] ⟨cw, ov, ⟨⟩⟩ (fun Ge => .aV []) (fun Ge => [.row g1000 2 1 51 (fun _ => [aM Ge 0 g1000, .own 1 Ge 0 Lp.af.aq.length]), .row Ge 1 Lp.af.aq.length 5 (row cB Lp.af.aq), .row 0 4 1 29 (fun _ => a1.lit), .row Gc 1 ([[105, 102, 32, 40]] : List ar).length 9 (row cS ([[105, 102, 32, 40]] : List ar)), .row Pq 1 ([[41, 32]] : List ar).length 9 (row cS ([[41, 32]] : List ar)), .row akn 1 ([[32, 101, 108, 115, 101, 32]] : List ar).length 9 (row cS ([[32, 101, 108, 115, 101, 32]] : List ar))]) fun Ge => ?_))⟩)⟩⟩⟩
 obtain rfl := si h
 exact en [0, 1] ⟨Ge, rfl, rfl⟩ (.br ⟨⟩) ⟨(ob rfl ⟨.aM, .o, ⟨⟩⟩), od, ⟨⟩⟩
 obtain rfl := si h
 exact en [0, 1] ⟨C8, rfl, rfl⟩ (.br ⟨⟩) ⟨(ob rfl ⟨.aM, .o, ⟨⟩⟩), od, ⟨⟩⟩
 refine .d (sE h (fun akp h => ?_) (fun akp h => ?_))
 refine .d ⟨row cS ([[119, 104, 105, 108, 101, 32, 40]] : List ar), aC cS ([[119, 104, 105, 108, 101, 32, 40]] : List ar) rfl (aB rfl), (bk h fun Lq akq h => (cm (aw (g1000 := g1000) (g1001 := g1001) (g1002 := 0) akq) [0, 1, 3] ⟨cw, ov, ov, ⟨⟩⟩ ?_))⟩
 rintro _ _ ⟨aam, Pr, rfl, rfl⟩
 refine ⟨.aV [], [.row g1000 2 1 51 (fun _ => [aM aam 0 g1000, .own 1 aam 0 Lq.af.aq.length]), .row aam 1 Lq.af.aq.length 5 (row cB Lq.af.aq), .row 0 4 1 29 (fun _ => a1.lit), .row Pr 1 ([[119, 104, 105, 108, 101, 32, 40]] : List ar).length 9 (row cS ([[119, 104, 105, 108, 101, 32, 40]] : List ar))], rfl, atv, (.d ⟨rfl, ⟨rfl, _, rfl, (bk h fun uZ AJ h => ⟨aA AJ, _, (ax AJ).trans (ae.au uZ), (bk h fun uc Jf h => (cH (km _ _ _ _ Jf _ _) [0, 1] ⟨cw, ov, ⟨⟩⟩ (fun Gf => .aV []) (fun Gf => [.row g1000 2 1 51 (fun _ => [aM Gf 0 g1000, .own 1 Gf 0 uc.af.aq.length]), .row Gf 1 uc.af.aq.length 5 (row cB uc.af.aq), .row 0 4 1 29 (fun _ => a1.lit), .row Pr 1 ([[119, 104, 105, 108, 101, 32, 40]] : List ar).length 9 (row cS ([[119, 104, 105, 108, 101, 32, 40]] : List ar))]) fun Gf => (.d ⟨row cS ([[41, 32]] : List ar), aC cS ([[41, 32]] : List ar) rfl (aB rfl), (bk h fun Lr akr h => (cm (aw (g1000 := g1000) (g1001 := Gf) (g1002 := 0) akr) [0, 1, 4] ⟨cw, ov, ov, ⟨⟩⟩ ?_))⟩)))⟩)⟩⟩)⟩
 rintro _ _ ⟨aan, aks, rfl, rfl⟩
 refine ⟨.aV [], [.row g1000 2 1 51 (fun _ => [aM aan 0 g1000, .own 1 aan 0 Lr.af.aq.length]), .row aan 1 Lr.af.aq.length 5 (row cB Lr.af.aq), .row 0 4 1 29 (fun _ => a1.lit), .row Pr 1 ([[119, 104, 105, 108, 101, 32, 40]] : List ar).length 9 (row cS ([[119, 104, 105, 108, 101, 32, 40]] : List ar)), .row aks 1 ([[41, 32]] : List ar).length 9 (row cS ([[41, 32]] : List ar))], rfl, atv, ⟨rfl, ⟨rfl, _, rfl, (bk h fun ZU Um h => ⟨aA Um, _, (ax Um).trans (ae.au ZU), (bk h fun Ls akt h => (cH (pc _ _ _ akt _ _) [0, 1] ⟨cw, ov, ⟨⟩⟩ (fun Gg => .aV []) (fun Gg => [.row g1000 2 1 51 (fun _ => [aM Gg 0 g1000, .own 1 Gg 0 Ls.af.aq.length]), .row Gg 1 Ls.af.aq.length 5 (row cB Ls.af.aq), .row 0 4 1 29 (fun _ => a1.lit), .row Pr 1 ([[119, 104, 105, 108, 101, 32, 40]] : List ar).length 9 (row cS ([[119, 104, 105, 108, 101, 32, 40]] : List ar)), .row aks 1 ([[41, 32]] : List ar).length 9 (row cS ([[41, 32]] : List ar))]) fun Gg => ?_))⟩)⟩⟩⟩
 obtain rfl := si h
 exact en [0, 1] ⟨Gg, rfl, rfl⟩ (.br ⟨⟩) ⟨(ob rfl ⟨.aM, .o, ⟨⟩⟩), od, ⟨⟩⟩
 refine .d (sE h (fun aku h => ?_) (fun aku h => ?_))
 refine .d ⟨row cS ([[102, 111, 114, 101, 97, 99, 104, 32, 40]] : List ar), aC cS ([[102, 111, 114, 101, 97, 99, 104, 32, 40]] : List ar) rfl (aB rfl), (bk h fun Lt akv h => (cm (aw (g1000 := g1000) (g1001 := g1001) (g1002 := 0) akv) [0, 1, 3] ⟨cw, ov, ov, ⟨⟩⟩ ?_))⟩
 rintro _ _ ⟨aao, Ps, rfl, rfl⟩
 refine ⟨.aV [], [.row g1000 2 1 51 (fun _ => [aM aao 0 g1000, .own 1 aao 0 Lt.af.aq.length]), .row aao 1 Lt.af.aq.length 5 (row cB Lt.af.aq), .row 0 4 1 29 (fun _ => a1.lit), .row Ps 1 ([[102, 111, 114, 101, 97, 99, 104, 32, 40]] : List ar).length 9 (row cS ([[102, 111, 114, 101, 97, 99, 104, 32, 40]] : List ar))], rfl, atv, (.d ⟨rfl, ⟨rfl, _, rfl, (bk h fun ZV Un h => ⟨aA Un, _, (ax Un).trans (ae.au ZV), (bk h fun Lu akw h => (cH (km _ _ _ _ akw _ _) [0, 1] ⟨cw, ov, ⟨⟩⟩ (fun Gh => .aV []) (fun Gh => [.row g1000 2 1 51 (fun _ => [aM Gh 0 g1000, .own 1 Gh 0 Lu.af.aq.length]), .row Gh 1 Lu.af.aq.length 5 (row cB Lu.af.aq), .row 0 4 1 29 (fun _ => a1.lit), .row Ps 1 ([[102, 111, 114, 101, 97, 99, 104, 32, 40]] : List ar).length 9 (row cS ([[102, 111, 114, 101, 97, 99, 104, 32, 40]] : List ar))]) fun Gh => (.d ⟨rfl, ⟨rfl, _, rfl, (bk h fun zh Uo h => ⟨aA Uo, _, (ax Uo).trans (ae.au zh), ⟨row cS ([[32, 97, 115, 32, 36], zh.aj] : List ar), aC cS ([[32, 97, 115, 32, 36], zh.aj] : List ar) rfl (aB rfl), (bk h fun FD akx h => ?_)⟩⟩)⟩⟩)))⟩)⟩⟩)⟩
 refine cm (aw (g1000 := g1000) (g1001 := Gh) (g1002 := 0) akx) [0, 1, 4] ⟨cw, ov, ov, ⟨⟩⟩ ?_
 rintro _ _ ⟨Ma, aky, rfl, rfl⟩
 refine ⟨.aV [], [.row g1000 2 1 51 (fun _ => [aM Ma 0 g1000, .own 1 Ma 0 FD.af.aq.length]), .row Ma 1 FD.af.aq.length 5 (row cB FD.af.aq), .row 0 4 1 29 (fun _ => a1.lit), .row Ps 1 ([[102, 111, 114, 101, 97, 99, 104, 32, 40]] : List ar).length 9 (row cS ([[102, 111, 114, 101, 97, 99, 104, 32, 40]] : List ar)), .row aky 1 ([[32, 97, 115, 32, 36], zh.aj] : List ar).length 9 (row cS ([[32, 97, 115, 32, 36], zh.aj] : List ar))], rfl, atv, ?_⟩
 obtain ⟨apz, akz, akA⟩ := bd h
 replace h := akz
 refine .cut (fun σ η => ∃ CX, ∃ Mb : Nat, CX = apz ∧ σ = [(0, .aL 0 g1000 0 0), (3, .aL 2 0 0 0)] ∧ η = [.row g1000 2 1 51 (fun _ => [aM Mb 0 g1000, .own 1 Mb 0 CX.length]), .row Mb 1 CX.length 5 (row cB CX), .row 0 4 1 29 (fun _ => a1.lit)]) ?_ ?_
 refine .d ⟨rfl, ⟨rfl, _, rfl, (sE h (fun akB h => ?_) (fun akB h => ?_))⟩⟩
 refine ⟨rfl, ⟨rfl, _, rfl, (bk h fun CW Up h => ⟨aA Up, _, (ax Up).trans (ae.au CW), ⟨row cS ([[32, 61, 62, 32, 36], CW.aj] : List ar), aC cS ([[32, 61, 62, 32, 36], CW.aj] : List ar) rfl (aB rfl), (bk h fun Lv akC h => (cm (aw (g1000 := g1000) (g1001 := Ma) (g1002 := 0) akC) [0, 1, 5] ⟨cw, ov, ov, ⟨⟩⟩ ?_))⟩⟩)⟩⟩
 rintro _ _ ⟨Pt, apA, rfl, rfl⟩
 exact ⟨.aV [], [.row g1000 2 1 51 (fun _ => [aM Pt 0 g1000, .own 1 Pt 0 Lv.af.aq.length]), .row Pt 1 Lv.af.aq.length 5 (row cB Lv.af.aq), .row 0 4 1 29 (fun _ => a1.lit), .row Ps 1 ([[102, 111, 114, 101, 97, 99, 104, 32, 40]] : List ar).length 9 (row cS ([[102, 111, 114, 101, 97, 99, 104, 32, 40]] : List ar)), .row aky 1 ([[32, 97, 115, 32, 36], zh.aj] : List ar).length 9 (row cS ([[32, 97, 115, 32, 36], zh.aj] : List ar)), .row apA 1 ([[32, 61, 62, 32, 36], CW.aj] : List ar).length 9 (row cS ([[32, 61, 62, 32, 36], CW.aj] : List ar))], rfl, atv, (ct ⟨_, Pt, si h, rfl, rfl⟩ (tk [0, 1, 2] ⟨.p, .p, ⟨⟩⟩ ⟨(ob rfl ⟨.aM, .o, ⟨⟩⟩), od, (cF rfl), ⟨⟩⟩))⟩
 exact ct ⟨_, Ma, si h, rfl, rfl⟩ (tk [0, 1, 2] ⟨.p, .p, ⟨⟩⟩ ⟨(ob rfl ⟨.aM, .o, ⟨⟩⟩), od, (cF rfl), ⟨⟩⟩)
 rintro _ _ ⟨CX, Mb, rfl, rfl, rfl⟩
 replace h := akA
 refine .d ⟨row cS ([[41, 32]] : List ar), aC cS ([[41, 32]] : List ar) rfl (aB rfl), (bk h fun Lw akD h => (cm (aw (g1000 := g1000) (g1001 := Mb) (g1002 := 0) akD) [0, 1, 3] ⟨cw, ov, ov, ⟨⟩⟩ ?_))⟩
 rintro _ _ ⟨aap, akE, rfl, rfl⟩
 refine ⟨.aV [], [.row g1000 2 1 51 (fun _ => [aM aap 0 g1000, .own 1 aap 0 Lw.af.aq.length]), .row aap 1 Lw.af.aq.length 5 (row cB Lw.af.aq), .row 0 4 1 29 (fun _ => a1.lit), .row akE 1 ([[41, 32]] : List ar).length 9 (row cS ([[41, 32]] : List ar))], rfl, atv, ⟨rfl, ⟨rfl, _, rfl, ⟨rfl, ⟨rfl, _, rfl, (bk h fun ZW Uq h => ⟨aA Uq, _, (ax Uq).trans (ae.au ZW), (bk h fun Lx akF h => (cH (pc _ _ _ akF _ _) [0, 1] ⟨cw, ov, ⟨⟩⟩ (fun Gi => .aV []) (fun Gi => [.row g1000 2 1 51 (fun _ => [aM Gi 0 g1000, .own 1 Gi 0 Lx.af.aq.length]), .row Gi 1 Lx.af.aq.length 5 (row cB Lx.af.aq), .row 0 4 1 29 (fun _ => a1.lit), .row akE 1 ([[41, 32]] : List ar).length 9 (row cS ([[41, 32]] : List ar))]) fun Gi => ?_))⟩)⟩⟩⟩⟩⟩
 obtain rfl := si h
 exact en [0, 1] ⟨Gi, rfl, rfl⟩ (.br ⟨⟩) ⟨(ob rfl ⟨.aM, .o, ⟨⟩⟩), od, ⟨⟩⟩
 refine .d (sE h (fun akG h => ?_) (fun akG h => ?_))
 refine ⟨row cS ([[98, 114, 101, 97, 107, 59]] : List ar), aC cS ([[98, 114, 101, 97, 107, 59]] : List ar) rfl (aB rfl), (bk h fun Ly akH h => (cm (aw (g1000 := g1000) (g1001 := g1001) (g1002 := 0) akH) [0, 1, 3] ⟨cw, ov, ov, ⟨⟩⟩ ?_))⟩
 rintro _ _ ⟨Pu, apB, rfl, rfl⟩
 refine ⟨.aV [], [.row g1000 2 1 51 (fun _ => [aM Pu 0 g1000, .own 1 Pu 0 Ly.af.aq.length]), .row Pu 1 Ly.af.aq.length 5 (row cB Ly.af.aq), .row 0 4 1 29 (fun _ => a1.lit), .row apB 1 ([[98, 114, 101, 97, 107, 59]] : List ar).length 9 (row cS ([[98, 114, 101, 97, 107, 59]] : List ar))], rfl, atv, ?_⟩
 obtain rfl := si h
 exact en [0, 1] ⟨Pu, rfl, rfl⟩ (.br ⟨⟩) ⟨(ob rfl ⟨.aM, .o, ⟨⟩⟩), od, ⟨⟩⟩
 refine .d (sE h (fun akI h => ?_) (fun akI h => ?_))
 refine ⟨row cS ([[99, 111, 110, 116, 105, 110, 117, 101, 59]] : List ar), aC cS ([[99, 111, 110, 116, 105, 110, 117, 101, 59]] : List ar) rfl (aB rfl), (bk h fun Lz akJ h => (cm (aw (g1000 := g1000) (g1001 := g1001) (g1002 := 0) akJ) [0, 1, 3] ⟨cw, ov, ov, ⟨⟩⟩ ?_))⟩
 rintro _ _ ⟨Pv, apC, rfl, rfl⟩
 refine ⟨.aV [], [.row g1000 2 1 51 (fun _ => [aM Pv 0 g1000, .own 1 Pv 0 Lz.af.aq.length]), .row Pv 1 Lz.af.aq.length 5 (row cB Lz.af.aq), .row 0 4 1 29 (fun _ => a1.lit), .row apC 1 ([[99, 111, 110, 116, 105, 110, 117, 101, 59]] : List ar).length 9 (row cS ([[99, 111, 110, 116, 105, 110, 117, 101, 59]] : List ar))], rfl, atv, ?_⟩
 obtain rfl := si h
 exact en [0, 1] ⟨Pv, rfl, rfl⟩ (.br ⟨⟩) ⟨(ob rfl ⟨.aM, .o, ⟨⟩⟩), od, ⟨⟩⟩
 refine .d (sE h (fun akK h => ?_) (fun akK h => ?_))
 refine .d ⟨rfl, ⟨rfl, _, rfl, (sE h (fun akL h => ?_) (fun akL h => ?_))⟩⟩
 refine ⟨row cS ([[114, 101, 116, 117, 114, 110, 59]] : List ar), aC cS ([[114, 101, 116, 117, 114, 110, 59]] : List ar) rfl (aB rfl), (bk h fun LA akM h => (cm (aw (g1000 := g1000) (g1001 := g1001) (g1002 := 0) akM) [0, 1, 3] ⟨cw, ov, ov, ⟨⟩⟩ ?_))⟩
 rintro _ _ ⟨Pw, apD, rfl, rfl⟩
 refine ⟨.aV [], [.row g1000 2 1 51 (fun _ => [aM Pw 0 g1000, .own 1 Pw 0 LA.af.aq.length]), .row Pw 1 LA.af.aq.length 5 (row cB LA.af.aq), .row 0 4 1 29 (fun _ => a1.lit), .row apD 1 ([[114, 101, 116, 117, 114, 110, 59]] : List ar).length 9 (row cS ([[114, 101, 116, 117, 114, 110, 59]] : List ar))], rfl, atv, ?_⟩
 obtain rfl := si h
 exact en [0, 1] ⟨Pw, rfl, rfl⟩ (.br ⟨⟩) ⟨(ob rfl ⟨.aM, .o, ⟨⟩⟩), od, ⟨⟩⟩
 refine ⟨rfl, ⟨rfl, _, rfl, (bk h fun ZX Ur h => ⟨aA Ur, _, (ax Ur).trans (ae.au ZX), (bk h fun LB akN h => (cH (xY _ _ _ _ akN _ _) [0, 1] ⟨cw, ov, ⟨⟩⟩ (fun Gj => .aV []) (fun Gj => [.row g1000 2 1 51 (fun _ => [aM Gj 0 g1000, .own 1 Gj 0 LB.af.aq.length]), .row Gj 1 LB.af.aq.length 5 (row cB LB.af.aq), .row 0 4 1 29 (fun _ => a1.lit)]) fun Gj => ?_))⟩)⟩⟩
 obtain rfl := si h
 exact en [0, 1] ⟨Gj, rfl, rfl⟩ (.br ⟨⟩) ⟨(ob rfl ⟨.aM, .o, ⟨⟩⟩), od, ⟨⟩⟩
 refine .d (sE h (fun akO h => ?_) (fun akO h => ?_))
 refine ⟨rfl, ⟨rfl, _, rfl, ⟨row cS ([[103, 108, 111, 98, 97, 108, 32, 36], a1.aj, [59]] : List ar), aC cS ([[103, 108, 111, 98, 97, 108, 32, 36], a1.aj, [59]] : List ar) rfl (aB rfl), (bk h fun LC akP h => (cm (aw (g1000 := g1000) (g1001 := g1001) (g1002 := 0) akP) [0, 1, 3] ⟨cw, ov, ov, ⟨⟩⟩ ?_))⟩⟩⟩
 rintro _ _ ⟨Px, apE, rfl, rfl⟩
 refine ⟨.aV [], [.row g1000 2 1 51 (fun _ => [aM Px 0 g1000, .own 1 Px 0 LC.af.aq.length]), .row Px 1 LC.af.aq.length 5 (row cB LC.af.aq), .row 0 4 1 29 (fun _ => a1.lit), .row apE 1 ([[103, 108, 111, 98, 97, 108, 32, 36], a1.aj, [59]] : List ar).length 9 (row cS ([[103, 108, 111, 98, 97, 108, 32, 36], a1.aj, [59]] : List ar))], rfl, atv, ?_⟩
 obtain rfl := si h
 exact en [0, 1] ⟨Px, rfl, rfl⟩ (.br ⟨⟩) ⟨(ob rfl ⟨.aM, .o, ⟨⟩⟩), od, ⟨⟩⟩
 refine .d (sE h (fun akQ h => ?_) (fun akQ h => ?_))
 refine .d ⟨row cS ([[117, 110, 115, 101, 116, 40]] : List ar), aC cS ([[117, 110, 115, 101, 116, 40]] : List ar) rfl (aB rfl), (bk h fun LD akR h => (cm (aw (g1000 := g1000) (g1001 := g1001) (g1002 := 0) akR) [0, 1, 3] ⟨cw, ov, ov, ⟨⟩⟩ ?_))⟩
 rintro _ _ ⟨aaq, aar, rfl, rfl⟩
 refine ⟨.aV [], [.row g1000 2 1 51 (fun _ => [aM aaq 0 g1000, .own 1 aaq 0 LD.af.aq.length]), .row aaq 1 LD.af.aq.length 5 (row cB LD.af.aq), .row 0 4 1 29 (fun _ => a1.lit), .row aar 1 ([[117, 110, 115, 101, 116, 40]] : List ar).length 9 (row cS ([[117, 110, 115, 101, 116, 40]] : List ar))], rfl, atv, (.d ⟨rfl, ⟨rfl, _, rfl, (bk h fun ZY Us h => ⟨aA Us, _, (ax Us).trans (ae.au ZY), (bk h fun LF akS h => (cH (km _ _ _ _ akS _ _) [0, 1] ⟨cw, ov, ⟨⟩⟩ (fun Gk => .aV []) (fun Gk => [.row g1000 2 1 51 (fun _ => [aM Gk 0 g1000, .own 1 Gk 0 LF.af.aq.length]), .row Gk 1 LF.af.aq.length 5 (row cB LF.af.aq), .row 0 4 1 29 (fun _ => a1.lit), .row aar 1 ([[117, 110, 115, 101, 116, 40]] : List ar).length 9 (row cS ([[117, 110, 115, 101, 116, 40]] : List ar))]) fun Gk => ⟨row cS ([[41, 59]] : List ar), aC cS ([[41, 59]] : List ar) rfl (aB rfl), (bk h fun LG akT h => (cm (aw (g1000 := g1000) (g1001 := Gk) (g1002 := 0) akT) [0, 1, 4] ⟨cw, ov, ov, ⟨⟩⟩ ?_))⟩))⟩)⟩⟩)⟩
 rintro _ _ ⟨Py, apF, rfl, rfl⟩
 refine ⟨.aV [], [.row g1000 2 1 51 (fun _ => [aM Py 0 g1000, .own 1 Py 0 LG.af.aq.length]), .row Py 1 LG.af.aq.length 5 (row cB LG.af.aq), .row 0 4 1 29 (fun _ => a1.lit), .row aar 1 ([[117, 110, 115, 101, 116, 40]] : List ar).length 9 (row cS ([[117, 110, 115, 101, 116, 40]] : List ar)), .row apF 1 ([[41, 59]] : List ar).length 9 (row cS ([[41, 59]] : List ar))], rfl, atv, ?_⟩
 obtain rfl := si h
 exact en [0, 1] ⟨Py, rfl, rfl⟩ (.br ⟨⟩) ⟨(ob rfl ⟨.aM, .o, ⟨⟩⟩), od, ⟨⟩⟩
 refine .d (sE h (fun akU h => ?_) (fun akU h => ?_))
 refine ⟨rfl, ⟨rfl, _, rfl, (bk h fun ZZ Ut h => ⟨aA Ut, _, (ax Ut).trans (ae.au ZZ), (bk h fun LH akV h => (cH (xY _ _ _ _ akV _ _) [0, 1] ⟨cw, ov, ⟨⟩⟩ (fun Gl => .aV []) (fun Gl => [.row g1000 2 1 51 (fun _ => [aM Gl 0 g1000, .own 1 Gl 0 LH.af.aq.length]), .row Gl 1 LH.af.aq.length 5 (row cB LH.af.aq), .row 0 4 1 29 (fun _ => a1.lit)]) fun Gl => ?_))⟩)⟩⟩
 obtain rfl := si h
 exact en [0, 1] ⟨Gl, rfl, rfl⟩ (.br ⟨⟩) ⟨(ob rfl ⟨.aM, .o, ⟨⟩⟩), od, ⟨⟩⟩
 refine .d (sE h (fun akW h => ?_) (fun akW h => ?_))
 refine .d (.d ⟨rfl, ⟨rfl, _, rfl, (sE h (fun akX h => ?_) (fun akX h => ?_))⟩⟩)
 refine ⟨rfl, ⟨rfl, _, rfl, (bk h fun zi Uu h => ⟨aA Uu, _, (ax Uu).trans (ae.au zi), ⟨row cS ([[36], zi.aj, [32, 61, 32]] : List ar), aC cS ([[36], zi.aj, [32, 61, 32]] : List ar) rfl (aB rfl), (bk h fun LI akY h => (cm (aw (g1000 := g1000) (g1001 := g1001) (g1002 := 0) akY) [0, 1, 3] ⟨cw, ov, ov, ⟨⟩⟩ ?_))⟩⟩)⟩⟩
 rintro _ _ ⟨aas, akZ, rfl, rfl⟩
 refine ⟨.aV [], [.row g1000 2 1 51 (fun _ => [aM aas 0 g1000, .own 1 aas 0 LI.af.aq.length]), .row aas 1 LI.af.aq.length 5 (row cB LI.af.aq), .row 0 4 1 29 (fun _ => a1.lit), .row akZ 1 ([[36], zi.aj, [32, 61, 32]] : List ar).length 9 (row cS ([[36], zi.aj, [32, 61, 32]] : List ar))], rfl, atv, ⟨rfl, ⟨rfl, _, rfl, ⟨rfl, ⟨rfl, _, rfl, (bk h fun Z0 Uv h => ⟨aA Uv, _, (ax Uv).trans (ae.au Z0), (bk h fun LJ ak0 h => (cH (xY _ _ _ _ ak0 _ _) [0, 1] ⟨cw, ov, ⟨⟩⟩ (fun Gm => .aV []) (fun Gm => [.row g1000 2 1 51 (fun _ => [aM Gm 0 g1000, .own 1 Gm 0 LJ.af.aq.length]), .row Gm 1 LJ.af.aq.length 5 (row cB LJ.af.aq), .row 0 4 1 29 (fun _ => a1.lit), .row akZ 1 ([[36], zi.aj, [32, 61, 32]] : List ar).length 9 (row cS ([[36], zi.aj, [32, 61, 32]] : List ar))]) fun Gm => ?_))⟩)⟩⟩⟩⟩⟩
 obtain rfl := si h
 exact en [0, 1] ⟨Gm, rfl, rfl⟩ (.br ⟨⟩) ⟨(ob rfl ⟨.aM, .o, ⟨⟩⟩), od, ⟨⟩⟩
 refine ⟨rfl, ⟨rfl, _, rfl, ⟨rfl, ⟨rfl, _, rfl, (bk h fun Z1 Uw h => ⟨aA Uw, _, (ax Uw).trans (ae.au Z1), (bk h fun LK ak1 h => (cH (xY _ _ _ _ ak1 _ _) [0, 1] ⟨cw, ov, ⟨⟩⟩ (fun Gn => .aV []) (fun Gn => [.row g1000 2 1 51 (fun _ => [aM Gn 0 g1000, .own 1 Gn 0 LK.af.aq.length]), .row Gn 1 LK.af.aq.length 5 (row cB LK.af.aq), .row 0 4 1 29 (fun _ => a1.lit)]) fun Gn => ?_))⟩)⟩⟩⟩⟩
 obtain rfl := si h
 exact en [0, 1] ⟨Gn, rfl, rfl⟩ (.br ⟨⟩) ⟨(ob rfl ⟨.aM, .o, ⟨⟩⟩), od, ⟨⟩⟩
 refine .d (sE h (fun ak2 h => ?_) (fun ak2 h => ?_))
 refine ⟨rfl, ⟨rfl, _, rfl, (bk h fun FE ak3 h => (aS (pa ak3) ⟨row cS ([[105, 110, 99, 108, 117, 100, 101, 32], FE, [59]] : List ar), aC cS ([[105, 110, 99, 108, 117, 100, 101, 32], FE, [59]] : List ar) rfl (aB rfl), (bk h fun LL ak4 h => (cm (aw (g1000 := g1000) (g1001 := g1001) (g1002 := 0) ak4) [0, 1, 3] ⟨cw, ov, ov, ⟨⟩⟩ ?_))⟩))⟩⟩
 rintro _ _ ⟨Pz, apG, rfl, rfl⟩
 refine ⟨.aV [], [.row g1000 2 1 51 (fun _ => [aM Pz 0 g1000, .own 1 Pz 0 LL.af.aq.length]), .row Pz 1 LL.af.aq.length 5 (row cB LL.af.aq), .row 0 4 1 29 (fun _ => a1.lit), .row apG 1 ([[105, 110, 99, 108, 117, 100, 101, 32], FE, [59]] : List ar).length 9 (row cS ([[105, 110, 99, 108, 117, 100, 101, 32], FE, [59]] : List ar))], rfl, atv, ?_⟩
 obtain rfl := si h
 exact en [0, 1] ⟨Pz, rfl, rfl⟩ (.br ⟨⟩) ⟨(ob rfl ⟨.aM, .o, ⟨⟩⟩), od, ⟨⟩⟩
 refine .d (sE h (fun ak5 h => ?_) (fun ak5 h => ?_))
 refine ⟨rfl, _, rfl, (bk h fun LM ak6 h => (cH (pc _ _ _ ak6 _ _) [0, 1] ⟨cw, ov, ⟨⟩⟩ (fun Gp => .aV []) (fun Gp => [.row g1000 2 1 51 (fun _ => [aM Gp 0 g1000, .own 1 Gp 0 LM.af.aq.length]), .row Gp 1 LM.af.aq.length 5 (row cB LM.af.aq), .row 0 4 1 29 (fun _ => a1.lit)]) fun Gp => ?_))⟩
 obtain rfl := si h
 exact en [0, 1] ⟨Gp, rfl, rfl⟩ (.br ⟨⟩) ⟨(ob rfl ⟨.aM, .o, ⟨⟩⟩), od, ⟨⟩⟩
 refine .d (sE h (fun ak7 h => ?_) (fun ak7 h => ?_))
 refine ⟨rfl, _, rfl, (bk h fun LN ak8 h => (cH (akc _ _ _ ak8 _ _) [0, 1] ⟨cw, ov, ⟨⟩⟩ (fun Gq => .aV []) (fun Gq => [.row g1000 2 1 51 (fun _ => [aM Gq 0 g1000, .own 1 Gq 0 LN.af.aq.length]), .row Gq 1 LN.af.aq.length 5 (row cB LN.af.aq), .row 0 4 1 29 (fun _ => a1.lit)]) fun Gq => ?_))⟩
 obtain rfl := si h
 exact en [0, 1] ⟨Gq, rfl, rfl⟩ (.br ⟨⟩) ⟨(ob rfl ⟨.aM, .o, ⟨⟩⟩), od, ⟨⟩⟩
 refine .d (sE h (fun ak9 h => ?_) (fun ak9 h => ?_))
 refine ⟨rfl, _, rfl, (bk h fun LO ala h => (cH (akb _ _ _ ala _ _) [0, 1] ⟨cw, ov, ⟨⟩⟩ (fun Gr => .aV []) (fun Gr => [.row g1000 2 1 51 (fun _ => [aM Gr 0 g1000, .own 1 Gr 0 LO.af.aq.length]), .row Gr 1 LO.af.aq.length 5 (row cB LO.af.aq), .row 0 4 1 29 (fun _ => a1.lit)]) fun Gr => ?_))⟩
 obtain rfl := si h
 exact en [0, 1] ⟨Gr, rfl, rfl⟩ (.br ⟨⟩) ⟨(ob rfl ⟨.aM, .o, ⟨⟩⟩), od, ⟨⟩⟩
 refine .d (sE h (fun alb h => ?_) (fun alb h => ?_))
 refine ⟨rfl, _, rfl, (bk h fun LP alc h => (cH (Ui _ _ _ _ alc _ _) [0, 1] ⟨cw, ov, ⟨⟩⟩ (fun Gs => .aV []) (fun Gs => [.row g1000 2 1 51 (fun _ => [aM Gs 0 g1000, .own 1 Gs 0 LP.af.aq.length]), .row Gs 1 LP.af.aq.length 5 (row cB LP.af.aq), .row 0 4 1 29 (fun _ => a1.lit)]) fun Gs => ?_))⟩
 obtain rfl := si h
 exact en [0, 1] ⟨Gs, rfl, rfl⟩ (.br ⟨⟩) ⟨(ob rfl ⟨.aM, .o, ⟨⟩⟩), od, ⟨⟩⟩
 refine .d (sE h (fun ald h => ?_) (fun ald h => ?_))
 refine ⟨rfl, _, rfl, (bk h fun LQ ale h => (cH (Ui _ _ _ _ ale _ _) [0, 1] ⟨cw, ov, ⟨⟩⟩ (fun Gt => .aV []) (fun Gt => [.row g1000 2 1 51 (fun _ => [aM Gt 0 g1000, .own 1 Gt 0 LQ.af.aq.length]), .row Gt 1 LQ.af.aq.length 5 (row cB LQ.af.aq), .row 0 4 1 29 (fun _ => a1.lit)]) fun Gt => ?_))⟩
 obtain rfl := si h
 exact en [0, 1] ⟨Gt, rfl, rfl⟩ (.br ⟨⟩) ⟨(ob rfl ⟨.aM, .o, ⟨⟩⟩), od, ⟨⟩⟩
 obtain rfl := si h
 exact en [0, 1] ⟨g1001, rfl, rfl⟩ (.br ⟨⟩) ⟨(ob rfl ⟨.aM, .o, ⟨⟩⟩), od, ⟨⟩⟩
 intro _ alf a0 a1 a2 r h g1000 g1001
 refine gd Tryz.func99 ?_
 refine .d (.d ⟨rfl, ⟨rfl, _, rfl, ⟨row cS ([a1, a2.aj] : List ar), aC cS ([a1, a2.aj] : List ar) rfl (aB rfl), (bk h fun CY alg h => (cm (aw (g1000 := g1000) (g1001 := g1001) (g1002 := 0) alg) [0, 1, 3] ⟨cw, ov, ov, ⟨⟩⟩ ?_))⟩⟩⟩)
 rintro _ _ ⟨Gu, alh, rfl, rfl⟩
 refine ⟨.aV [], [.row g1000 2 1 51 (fun _ => [aM Gu 0 g1000, .own 1 Gu 0 CY.af.aq.length]), .row Gu 1 CY.af.aq.length 5 (row cB CY.af.aq), .row 0 4 1 29 (fun _ => a2.lit), .row alh 1 ([a1, a2.aj] : List ar).length 9 (row cS ([a1, a2.aj] : List ar))], rfl, atv, (.d ⟨rfl, ⟨rfl, _, rfl, ?_⟩⟩)⟩
 obtain ⟨apH, ali, alj⟩ := bd h
 replace h := ali
 refine .cut (fun σ η => ∃ C0, ∃ dV, ∃ Mc : Nat, (C0, dV) = apH ∧ σ = [(0, .aL 0 g1000 0 0), (6, sl 4 ae.cells dV)] ∧ η = [.row g1000 2 1 51 (fun _ => [aM Mc 0 g1000, .own 1 Mc 0 C0.length]), .row Mc 1 C0.length 5 (row cB C0)]) ?_ ?_
 refine .d (sD h (fun alk h => ?_) (fun alk h => ?_))
 refine .t (bk h fun Z4 Ux h => ⟨aA Ux, _, (ax Ux).trans (ae.au Z4), (.t (.t (.t (.t (sE h (fun alm h => ?_) (fun alm h => ?_))))))⟩)
 refine .d (bk h fun CZ Uy h => ⟨aA Uy, _, (ax Uy).trans (ae.au CZ), ⟨row cS ([[32, 101, 120, 116, 101, 110, 100, 115, 32], CZ.aj] : List ar), aC cS ([[32, 101, 120, 116, 101, 110, 100, 115, 32], CZ.aj] : List ar) rfl (aB rfl), (bk h fun LX aln h => (cm (aw (g1000 := g1000) (g1001 := Gu) (g1002 := 0) aln) [0, 1, 4] ⟨cw, ov, ov, ⟨⟩⟩ ?_))⟩⟩)
 rintro _ _ ⟨PA, apI, rfl, rfl⟩
 exact ⟨.aV [], [.row g1000 2 1 51 (fun _ => [aM PA 0 g1000, .own 1 PA 0 LX.af.aq.length]), .row PA 1 LX.af.aq.length 5 (row cB LX.af.aq), .row 0 4 1 29 (fun _ => a2.lit), .row alh 1 ([a1, a2.aj] : List ar).length 9 (row cS ([a1, a2.aj] : List ar)), .row apI 1 ([[32, 101, 120, 116, 101, 110, 100, 115, 32], CZ.aj] : List ar).length 9 (row cS ([[32, 101, 120, 116, 101, 110, 100, 115, 32], CZ.aj] : List ar))], rfl, atv, (bk h fun Pg Md h => ⟨trivial, gU Md, Pg.length, row ae.cells Pg, fK Md, fL Md, (ct ⟨_, _, PA, si h, rfl, rfl⟩ (tk [0, 1] ⟨.p, .l, ⟨⟩⟩ ⟨(ob rfl ⟨.aM, .o, ⟨⟩⟩), od, ⟨⟩⟩))⟩)⟩
 exact ct ⟨_, _, Gu, si h, rfl, rfl⟩ (tk [0, 1] ⟨.p, .l, ⟨⟩⟩ ⟨(ob rfl ⟨.aM, .o, ⟨⟩⟩), od, ⟨⟩⟩)
 exact .f (.f (.f (.f (.f (.f (ct ⟨_, _, Gu, si h, rfl, rfl⟩ (tk [0, 1] ⟨.p, .l, ⟨⟩⟩ ⟨(ob rfl ⟨.aM, .o, ⟨⟩⟩), od, ⟨⟩⟩)))))))
 rintro _ _ ⟨C0, dV, Mc, rfl, rfl, rfl⟩
 replace h := alj
 refine .d ⟨row cS ([[32, 123, 32]] : List ar), aC cS ([[32, 123, 32]] : List ar) rfl (aB rfl), (bk h fun FF alo h => (cm (aw (g1000 := g1000) (g1001 := Mc) (g1002 := 0) alo) [0, 1, 2] ⟨cw, ov, ov, ⟨⟩⟩ ?_))⟩
 rintro _ _ ⟨PB, apJ, rfl, rfl⟩
 refine ⟨.aV [], [.row g1000 2 1 51 (fun _ => [aM PB 0 g1000, .own 1 PB 0 FF.af.aq.length]), .row PB 1 FF.af.aq.length 5 (row cB FF.af.aq), .row apJ 1 ([[32, 123, 32]] : List ar).length 9 (row cS ([[32, 123, 32]] : List ar))], rfl, atv, ?_⟩
 obtain ⟨aat, alp, alq⟩ := bd h
 replace h := alp
 refine .cut (fun σ η => ∃ C1, ∃ Me : Nat, C1 = aat ∧ σ = [(0, .aL 0 g1000 0 0)] ∧ η = [.row g1000 2 1 51 (fun _ => [aM Me 0 g1000, .own 1 Me 0 C1.length]), .row Me 1 C1.length 5 (row cB C1)]) ?_ ?_
 refine .d ?_
 have alr := alf _ _ _ _ h
 refine le (mX (motive := fun als gD fW alu => ∀ By : Nat, dV = als → aat = alu → aG _ _ [(0, .aL 0 g1000 0 0), (39, sl 4 ae.cells dV), (40, .int .i64 (dV.length : Int)), (41, .int .i64 fW)] [.row g1000 2 1 51 (fun _ => [aM By 0 g1000, .own 1 By 0 gD.length]), .row By 1 gD.length 5 (row cB gD)]) ?_ dV FF.af.aq 0 aat alr PB rfl rfl) (tk [0, 1] ⟨.p, .l, .i, .i, ⟨⟩⟩ ⟨(ob rfl ⟨.aM, .o, ⟨⟩⟩), od, ⟨⟩⟩)
 intro _ alv _ alw _ _ als gD fW alu h Mf By PC alx
 subst PC
 subst alx
 refine aG.round (.d (.d (sD h (fun aly h => ?_) (fun aly h => ?_))))
 refine .d (.d (bk h fun fy Uz h => ⟨aA Uz, _, (ax Uz).trans (ae.au fy), ⟨rfl, _, fun _ => [.int .i64 fy.ai, .int .i64 fy.aD, .str fy.aj, sl 4 ae.cells fy.ah], rfl, bX rfl, (.d (.d ⟨rfl, ⟨rfl, _, rfl, (sE h (fun alz h => ?_) (fun alz h => ?_))⟩⟩))⟩⟩))
 refine .d ⟨rfl, ⟨rfl, _, rfl, ⟨row cS ([[117, 115, 101, 32], fy.aj, [59, 32]] : List ar), aC cS ([[117, 115, 101, 32], fy.aj, [59, 32]] : List ar) rfl (aB rfl), (bk h fun zu alA h => (cm (aw (g1000 := g1000) (g1001 := By) (g1002 := 0) alA) [0, 1, 3] ⟨cw, ov, ov, ⟨⟩⟩ ?_))⟩⟩⟩
 rintro _ _ ⟨PE, apK, rfl, rfl⟩
 exact ⟨.aV [], [.row g1000 2 1 51 (fun _ => [aM PE 0 g1000, .own 1 PE 0 zu.af.aq.length]), .row PE 1 zu.af.aq.length 5 (row cB zu.af.aq), .row 0 4 1 29 (fun _ => fy.lit), .row apK 1 ([[117, 115, 101, 32], fy.aj, [59, 32]] : List ar).length 9 (row cS ([[117, 115, 101, 32], fy.aj, [59, 32]] : List ar))], rfl, atv, (lg (Mf _ _ _ _ h PE rfl rfl) (tk [0, 1] ⟨.p, .l, .i, .i, ⟨⟩⟩ ⟨(ob rfl ⟨.aM, .o, ⟨⟩⟩), od, ⟨⟩⟩))⟩
 obtain ⟨apL, alB, alC⟩ := bd h
 replace h := alB
 refine .cut (fun σ η => ∃ rV, ∃ Gv : Nat, rV = apL ∧ σ = [(0, .aL 0 g1000 0 0), (8, .aL 2 0 0 0), (39, sl 4 ae.cells dV), (40, .int .i64 (dV.length : Int)), (41, .int .i64 fW)] ∧ η = [.row g1000 2 1 51 (fun _ => [aM Gv 0 g1000, .own 1 Gv 0 rV.length]), .row Gv 1 rV.length 5 (row cB rV), .row 0 4 1 29 (fun _ => fy.lit)]) ?_ ?_
 refine .d ⟨rfl, ⟨rfl, _, rfl, (sN h (fun alD h => ?_) (fun alD h => ?_))⟩⟩
 refine ⟨row cS ([[112, 114, 105, 118, 97, 116, 101, 32]] : List ar), aC cS ([[112, 114, 105, 118, 97, 116, 101, 32]] : List ar) rfl (aB rfl), (bk h fun zw alE h => (cm (aw (g1000 := g1000) (g1001 := By) (g1002 := 0) alE) [0, 1, 3] ⟨cw, ov, ov, ⟨⟩⟩ ?_))⟩
 rintro _ _ ⟨PF, apM, rfl, rfl⟩
 exact ⟨.aV [], [.row g1000 2 1 51 (fun _ => [aM PF 0 g1000, .own 1 PF 0 zw.af.aq.length]), .row PF 1 zw.af.aq.length 5 (row cB zw.af.aq), .row 0 4 1 29 (fun _ => fy.lit), .row apM 1 ([[112, 114, 105, 118, 97, 116, 101, 32]] : List ar).length 9 (row cS ([[112, 114, 105, 118, 97, 116, 101, 32]] : List ar))], rfl, atv, (ct ⟨_, PF, si h, rfl, rfl⟩ (tk [0, 1, 2] ⟨.p, .p, .l, .i, .i, ⟨⟩⟩ ⟨(ob rfl ⟨.aM, .o, ⟨⟩⟩), od, (cF rfl), ⟨⟩⟩))⟩
 exact ct ⟨_, By, si h, rfl, rfl⟩ (tk [0, 1, 2] ⟨.p, .p, .l, .i, .i, ⟨⟩⟩ ⟨(ob rfl ⟨.aM, .o, ⟨⟩⟩), od, (cF rfl), ⟨⟩⟩)
 rintro _ _ ⟨rV, Gv, rfl, rfl, rfl⟩
 replace h := alC
 obtain ⟨apN, alF, alG⟩ := bd h
 replace h := alF
 refine .cut (fun σ η => ∃ rW, ∃ PG : Nat, rW = apN ∧ σ = [(0, .aL 0 g1000 0 0), (8, .aL 2 0 0 0), (39, sl 4 ae.cells dV), (40, .int .i64 (dV.length : Int)), (41, .int .i64 fW)] ∧ η = [.row g1000 2 1 51 (fun _ => [aM PG 0 g1000, .own 1 PG 0 rW.length]), .row PG 1 rW.length 5 (row cB rW), .row 0 4 1 29 (fun _ => fy.lit)]) ?_ ?_
 refine .d ⟨rfl, ⟨rfl, _, rfl, (sN h (fun alH h => ?_) (fun alH h => ?_))⟩⟩
 refine ⟨row cS ([[115, 116, 97, 116, 105, 99, 32]] : List ar), aC cS ([[115, 116, 97, 116, 105, 99, 32]] : List ar) rfl (aB rfl), (bk h fun zx alI h => (cm (aw (g1000 := g1000) (g1001 := Gv) (g1002 := 0) alI) [0, 1, 3] ⟨cw, ov, ov, ⟨⟩⟩ ?_))⟩
 rintro _ _ ⟨PH, apO, rfl, rfl⟩
 exact ⟨.aV [], [.row g1000 2 1 51 (fun _ => [aM PH 0 g1000, .own 1 PH 0 zx.af.aq.length]), .row PH 1 zx.af.aq.length 5 (row cB zx.af.aq), .row 0 4 1 29 (fun _ => fy.lit), .row apO 1 ([[115, 116, 97, 116, 105, 99, 32]] : List ar).length 9 (row cS ([[115, 116, 97, 116, 105, 99, 32]] : List ar))], rfl, atv, (ct ⟨_, PH, si h, rfl, rfl⟩ (tk [0, 1, 2] ⟨.p, .p, .l, .i, .i, ⟨⟩⟩ ⟨(ob rfl ⟨.aM, .o, ⟨⟩⟩), od, (cF rfl), ⟨⟩⟩))⟩
 exact ct ⟨_, Gv, si h, rfl, rfl⟩ (tk [0, 1, 2] ⟨.p, .p, .l, .i, .i, ⟨⟩⟩ ⟨(ob rfl ⟨.aM, .o, ⟨⟩⟩), od, (cF rfl), ⟨⟩⟩)
 rintro _ _ ⟨rW, PG, rfl, rfl, rfl⟩
 replace h := alG
 refine .d (.d ⟨rfl, ⟨rfl, _, rfl, (sE h (fun alJ h => ?_) (fun alJ h => ?_))⟩⟩)
 refine .float [(0, true), (1, true), (2, true), (3, true), (4, true), (5, true), (6, true), (7, true), (8, true), (9, false)] atE ?_
 refine ⟨rfl, ⟨rfl, _, rfl, (bk h fun C5 UA h => ⟨ay UA, C5, az UA, (bk h fun C6 UB h => ⟨ay UB, C6, az UB, ⟨rfl, ⟨rfl, _, rfl, (bk h fun C7 UC h => ⟨aA UC, _, (ax UC).trans (ae.au C7), (bk h fun zy alK h => (cH (alv _ _ _ _ alK _ _) [0, 1] ⟨cw, ov, ⟨⟩⟩ (fun Gw => .aV []) (fun Gw => [.row g1000 2 1 51 (fun _ => [aM Gw 0 g1000, .own 1 Gw 0 zy.af.aq.length]), .row Gw 1 zy.af.aq.length 5 (row cB zy.af.aq), .row 0 4 1 29 (fun _ => fy.lit)]) fun Gw => ⟨row cS ([[32]] : List ar), aC cS ([[32]] : List ar) rfl (aB rfl), (bk h fun zA alL h => (cm (aw (g1000 := g1000) (g1001 := Gw) (g1002 := 0) alL) [0, 1, 3] ⟨cw, ov, ov, ⟨⟩⟩ ?_))⟩))⟩)⟩⟩⟩)⟩)⟩⟩
 rintro _ _ ⟨PI, apP, rfl, rfl⟩
 exact ⟨.aV [], [.row g1000 2 1 51 (fun _ => [aM PI 0 g1000, .own 1 PI 0 zA.af.aq.length]), .row PI 1 zA.af.aq.length 5 (row cB zA.af.aq), .row 0 4 1 29 (fun _ => fy.lit), .row apP 1 ([[32]] : List ar).length 9 (row cS ([[32]] : List ar))], rfl, atv, (lg (Mf _ _ _ _ h PI rfl rfl) (tk [0, 1] ⟨.p, .l, .i, .i, ⟨⟩⟩ ⟨(ob rfl ⟨.aM, .o, ⟨⟩⟩), od, ⟨⟩⟩))⟩
 refine ⟨rfl, _, rfl, (bk h fun zB alM h => (cH (alw _ _ _ alM _ _) [0, 1] ⟨cw, ov, ⟨⟩⟩ (fun Gx => .aV []) (fun Gx => [.row g1000 2 1 51 (fun _ => [aM Gx 0 g1000, .own 1 Gx 0 zB.af.aq.length]), .row Gx 1 zB.af.aq.length 5 (row cB zB.af.aq), .row 0 4 1 29 (fun _ => fy.lit)]) fun Gx => ⟨row cS ([[32]] : List ar), aC cS ([[32]] : List ar) rfl (aB rfl), (bk h fun zC alN h => (cm (aw (g1000 := g1000) (g1001 := Gx) (g1002 := 0) alN) [0, 1, 3] ⟨cw, ov, ov, ⟨⟩⟩ ?_))⟩))⟩
 rintro _ _ ⟨PJ, apQ, rfl, rfl⟩
 exact ⟨.aV [], [.row g1000 2 1 51 (fun _ => [aM PJ 0 g1000, .own 1 PJ 0 zC.af.aq.length]), .row PJ 1 zC.af.aq.length 5 (row cB zC.af.aq), .row 0 4 1 29 (fun _ => fy.lit), .row apQ 1 ([[32]] : List ar).length 9 (row cS ([[32]] : List ar))], rfl, atv, (lg (Mf _ _ _ _ h PJ rfl rfl) (tk [0, 1] ⟨.p, .l, .i, .i, ⟨⟩⟩ ⟨(ob rfl ⟨.aM, .o, ⟨⟩⟩), od, ⟨⟩⟩))⟩
 exact ct ⟨_, By, si h, rfl, rfl⟩ (tk [0, 1] ⟨.p, ⟨⟩⟩ ⟨(ob rfl ⟨.aM, .o, ⟨⟩⟩), od, ⟨⟩⟩)
 rintro _ _ ⟨C1, Me, rfl, rfl, rfl⟩
 replace h := alq
 refine ⟨row cS ([[125]] : List ar), aC cS ([[125]] : List ar) rfl (aB rfl), (bk h fun LY alO h => (cm (aw (g1000 := g1000) (g1001 := Me) (g1002 := 0) alO) [0, 1, 2] ⟨cw, ov, ov, ⟨⟩⟩ ?_))⟩
 rintro _ _ ⟨PK, apR, rfl, rfl⟩
 refine ⟨.aV [], [.row g1000 2 1 51 (fun _ => [aM PK 0 g1000, .own 1 PK 0 LY.af.aq.length]), .row PK 1 LY.af.aq.length 5 (row cB LY.af.aq), .row apR 1 ([[125]] : List ar).length 9 (row cS ([[125]] : List ar))], rfl, atv, ?_⟩
 obtain rfl := si h
 exact en [0, 1] ⟨PK, rfl, rfl⟩ (.br ⟨⟩) ⟨(ob rfl ⟨.aM, .o, ⟨⟩⟩), od, ⟨⟩⟩
 intro F0 F1 F2 lx ly hF2 dV gD fW o h
 exact .mk F2 hF2 F1 ly F0 lx dV gD fW o h
 intro _ pc a0 a1 r h g1000 g1001
 refine gd Tryz.func98 ?_
 refine .d (.d ⟨rfl, ⟨rfl, _, rfl, ⟨row cS ([[102, 117, 110, 99, 116, 105, 111, 110, 32], a1.aj] : List ar), aC cS ([[102, 117, 110, 99, 116, 105, 111, 110, 32], a1.aj] : List ar) rfl (aB rfl), (bk h fun LS alP h => (cm (aw (g1000 := g1000) (g1001 := g1001) (g1002 := 0) alP) [0, 1, 3] ⟨cw, ov, ov, ⟨⟩⟩ ?_))⟩⟩⟩)
 rintro _ _ ⟨PL, PM, rfl, rfl⟩
 refine ⟨.aV [], [.row g1000 2 1 51 (fun _ => [aM PL 0 g1000, .own 1 PL 0 LS.af.aq.length]), .row PL 1 LS.af.aq.length 5 (row cB LS.af.aq), .row 0 4 1 29 (fun _ => a1.lit), .row PM 1 ([[102, 117, 110, 99, 116, 105, 111, 110, 32], a1.aj] : List ar).length 9 (row cS ([[102, 117, 110, 99, 116, 105, 111, 110, 32], a1.aj] : List ar))], rfl, atv, (.d ⟨rfl, ⟨rfl, _, rfl, (bk h fun LU alQ h => (cH (jJ (g1000 := g1000) (g1001 := PL) alQ) [0, 1] ⟨cw, ov, ⟨⟩⟩ (fun Gy => .aV []) (fun Gy => [.row g1000 2 1 51 (fun _ => [aM Gy 0 g1000, .own 1 Gy 0 LU.af.aq.length]), .row Gy 1 LU.af.aq.length 5 (row cB LU.af.aq), .row 0 4 1 29 (fun _ => a1.lit), .row PM 1 ([[102, 117, 110, 99, 116, 105, 111, 110, 32], a1.aj] : List ar).length 9 (row cS ([[102, 117, 110, 99, 116, 105, 111, 110, 32], a1.aj] : List ar))]) fun Gy => (.d ⟨row cS ([[32]] : List ar), aC cS ([[32]] : List ar) rfl (aB rfl), (bk h fun LV alR h => (cm (aw (g1000 := g1000) (g1001 := Gy) (g1002 := 0) alR) [0, 1, 4] ⟨cw, ov, ov, ⟨⟩⟩ ?_))⟩)))⟩⟩)⟩
 rintro _ _ ⟨aau, alS, rfl, rfl⟩
 refine ⟨.aV [], [.row g1000 2 1 51 (fun _ => [aM aau 0 g1000, .own 1 aau 0 LV.af.aq.length]), .row aau 1 LV.af.aq.length 5 (row cB LV.af.aq), .row 0 4 1 29 (fun _ => a1.lit), .row PM 1 ([[102, 117, 110, 99, 116, 105, 111, 110, 32], a1.aj] : List ar).length 9 (row cS ([[102, 117, 110, 99, 116, 105, 111, 110, 32], a1.aj] : List ar)), .row alS 1 ([[32]] : List ar).length 9 (row cS ([[32]] : List ar))], rfl, atv, ⟨rfl, ⟨rfl, _, rfl, ⟨rfl, ⟨rfl, _, rfl, (bk h fun Z3 UD h => ⟨aA UD, _, (ax UD).trans (ae.au Z3), (bk h fun LW alT h => (cH (pc _ _ _ alT _ _) [0, 1] ⟨cw, ov, ⟨⟩⟩ (fun Gz => .aV []) (fun Gz => [.row g1000 2 1 51 (fun _ => [aM Gz 0 g1000, .own 1 Gz 0 LW.af.aq.length]), .row Gz 1 LW.af.aq.length 5 (row cB LW.af.aq), .row 0 4 1 29 (fun _ => a1.lit), .row PM 1 ([[102, 117, 110, 99, 116, 105, 111, 110, 32], a1.aj] : List ar).length 9 (row cS ([[102, 117, 110, 99, 116, 105, 111, 110, 32], a1.aj] : List ar)), .row alS 1 ([[32]] : List ar).length 9 (row cS ([[32]] : List ar))]) fun Gz => ?_))⟩)⟩⟩⟩⟩⟩
 obtain rfl := si h
 exact en [0, 1] ⟨Gz, rfl, rfl⟩ (.br ⟨⟩) ⟨(ob rfl ⟨.aM, .o, ⟨⟩⟩), od, ⟨⟩⟩
 intro _ km a0 a1 a2 r h g1000 g1001
 refine gd Tryz.func95 ?_
 refine .d (.d ⟨row cS ([a1] : List ar), aC cS ([a1] : List ar) rfl (aB rfl), (bk h fun AU JP h => (cm (aw (g1000 := g1000) (g1001 := g1001) (g1002 := 0) JP) [0, 1, 3] ⟨cw, ov, ov, ⟨⟩⟩ ?_))⟩)
 rintro _ _ ⟨aav, aaw, rfl, rfl⟩
 refine ⟨.aV [], [.row g1000 2 1 51 (fun _ => [aM aav 0 g1000, .own 1 aav 0 AU.af.aq.length]), .row aav 1 AU.af.aq.length 5 (row cB AU.af.aq), .row 0 4 1 29 (fun _ => a2.lit), .row aaw 1 ([a1] : List ar).length 9 (row cS ([a1] : List ar))], rfl, atv, (.d ⟨rfl, _, rfl, (bk h fun Lh alU h => (cH (km _ _ _ _ alU _ _) [0, 1] ⟨cw, ov, ⟨⟩⟩ (fun GA => .aV []) (fun GA => [.row g1000 2 1 51 (fun _ => [aM GA 0 g1000, .own 1 GA 0 Lh.af.aq.length]), .row GA 1 Lh.af.aq.length 5 (row cB Lh.af.aq), .row 0 4 1 29 (fun _ => a2.lit), .row aaw 1 ([a1] : List ar).length 9 (row cS ([a1] : List ar))]) fun GA => ⟨row cS ([[59]] : List ar), aC cS ([[59]] : List ar) rfl (aB rfl), (bk h fun Li alV h => (cm (aw (g1000 := g1000) (g1001 := GA) (g1002 := 0) alV) [0, 1, 4] ⟨cw, ov, ov, ⟨⟩⟩ ?_))⟩))⟩)⟩
 rintro _ _ ⟨PN, apS, rfl, rfl⟩
 refine ⟨.aV [], [.row g1000 2 1 51 (fun _ => [aM PN 0 g1000, .own 1 PN 0 Li.af.aq.length]), .row PN 1 Li.af.aq.length 5 (row cB Li.af.aq), .row 0 4 1 29 (fun _ => a2.lit), .row aaw 1 ([a1] : List ar).length 9 (row cS ([a1] : List ar)), .row apS 1 ([[59]] : List ar).length 9 (row cS ([[59]] : List ar))], rfl, atv, ?_⟩
 obtain rfl := si h
 exact en [0, 1] ⟨PN, rfl, rfl⟩ (.br ⟨⟩) ⟨(ob rfl ⟨.aM, .o, ⟨⟩⟩), od, ⟨⟩⟩
 intro _ _ pc alW a0 a1 r h g1000 g1001
 refine gd Tryz.func97 ?_
 refine .d (.d ⟨row cS ([[116, 114, 121, 32]] : List ar), aC cS ([[116, 114, 121, 32]] : List ar) rfl (aB rfl), (bk h fun LR alX h => (cm (aw (g1000 := g1000) (g1001 := g1001) (g1002 := 0) alX) [0, 1, 3] ⟨cw, ov, ov, ⟨⟩⟩ ?_))⟩)
 rintro _ _ ⟨aax, alY, rfl, rfl⟩
 refine ⟨.aV [], [.row g1000 2 1 51 (fun _ => [aM aax 0 g1000, .own 1 aax 0 LR.af.aq.length]), .row aax 1 LR.af.aq.length 5 (row cB LR.af.aq), .row 0 4 1 29 (fun _ => a1.lit), .row alY 1 ([[116, 114, 121, 32]] : List ar).length 9 (row cS ([[116, 114, 121, 32]] : List ar))], rfl, atv, (.d ⟨rfl, ⟨rfl, _, rfl, (bk h fun Z2 AK h => ⟨aA AK, _, (ax AK).trans (ae.au Z2), (bk h fun yJ Jg h => (cH (pc _ _ _ Jg _ _) [0, 1] ⟨cw, ov, ⟨⟩⟩ (fun GB => .aV []) (fun GB => [.row g1000 2 1 51 (fun _ => [aM GB 0 g1000, .own 1 GB 0 yJ.af.aq.length]), .row GB 1 yJ.af.aq.length 5 (row cB yJ.af.aq), .row 0 4 1 29 (fun _ => a1.lit), .row alY 1 ([[116, 114, 121, 32]] : List ar).length 9 (row cS ([[116, 114, 121, 32]] : List ar))]) fun GB => (.d ⟨rfl, ⟨rfl, _, rfl, (bk h fun fx Mg h => ⟨trivial, gU Mg, fx.length, row ae.cells fx, fK Mg, fL Mg, ?_⟩)⟩⟩)))⟩)⟩⟩)⟩
 have alZ := alW _ _ _ _ h
 refine le (ot (motive := fun al0 hU gO al1 => ∀ C9 : Nat, fx = al0 → r = al1 → aG _ _ [(0, .aL 0 g1000 0 0), (17, sl 4 ae.cells fx), (18, .int .i64 (fx.length : Int)), (19, .int .i64 gO)] [.row g1000 2 1 51 (fun _ => [aM C9 0 g1000, .own 1 C9 0 hU.length]), .row C9 1 hU.length 5 (row cB hU)]) ?_ fx yJ.af.aq 0 r alZ GB rfl rfl) (tk [0, 1] ⟨.p, .l, .i, .i, ⟨⟩⟩ ⟨(ob rfl ⟨.aM, .o, ⟨⟩⟩), od, ⟨⟩⟩)
 intro _ UE _ _ al0 hU gO al1 h UF C9 PO al2
 subst PO
 subst al2
 refine aG.round (.d (.d (sD h (fun al3 h => ?_) (fun al3 h => ?_))))
 refine .d (.d (bk h fun jo UG h => ⟨aA UG, _, (ax UG).trans (ae.au jo), ⟨rfl, _, fun _ => [.int .i64 jo.ai, .int .i64 jo.aD, .str jo.aj, sl 4 ae.cells jo.ah], rfl, bX rfl, (.d ⟨rfl, ⟨rfl, _, rfl, (sE h (fun al4 h => ?_) (fun al4 h => ?_))⟩⟩)⟩⟩))
 refine .d (.float [(0, true), (1, true), (2, true), (3, true), (4, true), (5, true), (6, true), (7, true), (8, false), (9, false)] atE ?_)
 refine ⟨rfl, ⟨rfl, _, rfl, ⟨rfl, ⟨rfl, _, rfl, (bk h fun s9 UH h => ⟨aA UH, _, (ax UH).trans (ae.au s9), ⟨row cS ([[32, 99, 97, 116, 99, 104, 32, 40], jo.aj, [32, 36], s9.aj, [41, 32]] : List ar), aC cS ([[32, 99, 97, 116, 99, 104, 32, 40], jo.aj, [32, 36], s9.aj, [41, 32]] : List ar) rfl (aB rfl), (bk h fun zq al5 h => (cm (aw (g1000 := g1000) (g1001 := C9) (g1002 := 0) al5) [0, 1, 3] ⟨cw, ov, ov, ⟨⟩⟩ ?_))⟩⟩)⟩⟩⟩⟩
 rintro _ _ ⟨aay, al6, rfl, rfl⟩
 exact ⟨.aV [], [.row g1000 2 1 51 (fun _ => [aM aay 0 g1000, .own 1 aay 0 zq.af.aq.length]), .row aay 1 zq.af.aq.length 5 (row cB zq.af.aq), .row 0 4 1 29 (fun _ => jo.lit), .row al6 1 ([[32, 99, 97, 116, 99, 104, 32, 40], jo.aj, [32, 36], s9.aj, [41, 32]] : List ar).length 9 (row cS ([[32, 99, 97, 116, 99, 104, 32, 40], jo.aj, [32, 36], s9.aj, [41, 32]] : List ar))], rfl, atv, ⟨rfl, ⟨rfl, _, rfl, (bk h fun C3 UI h => ⟨aA UI, _, (ax UI).trans (ae.au C3), (bk h fun zr al7 h => (cH (UE _ _ _ al7 _ _) [0, 1] ⟨cw, ov, ⟨⟩⟩ (fun GC => .aV []) (fun GC => [.row g1000 2 1 51 (fun _ => [aM GC 0 g1000, .own 1 GC 0 zr.af.aq.length]), .row GC 1 zr.af.aq.length 5 (row cB zr.af.aq), .row 0 4 1 29 (fun _ => jo.lit), .row al6 1 ([[32, 99, 97, 116, 99, 104, 32, 40], jo.aj, [32, 36], s9.aj, [41, 32]] : List ar).length 9 (row cS ([[32, 99, 97, 116, 99, 104, 32, 40], jo.aj, [32, 36], s9.aj, [41, 32]] : List ar))]) fun GC => (lg (UF _ _ _ _ h GC rfl rfl) (tk [0, 1] ⟨.p, .l, .i, .i, ⟨⟩⟩ ⟨(ob rfl ⟨.aM, .o, ⟨⟩⟩), od, ⟨⟩⟩))))⟩)⟩⟩⟩
 refine .d ⟨row cS ([[32, 102, 105, 110, 97, 108, 108, 121, 32]] : List ar), aC cS ([[32, 102, 105, 110, 97, 108, 108, 121, 32]] : List ar) rfl (aB rfl), (bk h fun zs al8 h => (cm (aw (g1000 := g1000) (g1001 := C9) (g1002 := 0) al8) [0, 1, 3] ⟨cw, ov, ov, ⟨⟩⟩ ?_))⟩
 rintro _ _ ⟨aaz, al9, rfl, rfl⟩
 exact ⟨.aV [], [.row g1000 2 1 51 (fun _ => [aM aaz 0 g1000, .own 1 aaz 0 zs.af.aq.length]), .row aaz 1 zs.af.aq.length 5 (row cB zs.af.aq), .row 0 4 1 29 (fun _ => jo.lit), .row al9 1 ([[32, 102, 105, 110, 97, 108, 108, 121, 32]] : List ar).length 9 (row cS ([[32, 102, 105, 110, 97, 108, 108, 121, 32]] : List ar))], rfl, atv, ⟨rfl, ⟨rfl, _, rfl, (bk h fun C4 UJ h => ⟨aA UJ, _, (ax UJ).trans (ae.au C4), (bk h fun zt ama h => (cH (UE _ _ _ ama _ _) [0, 1] ⟨cw, ov, ⟨⟩⟩ (fun GD => .aV []) (fun GD => [.row g1000 2 1 51 (fun _ => [aM GD 0 g1000, .own 1 GD 0 zt.af.aq.length]), .row GD 1 zt.af.aq.length 5 (row cB zt.af.aq), .row 0 4 1 29 (fun _ => jo.lit), .row al9 1 ([[32, 102, 105, 110, 97, 108, 108, 121, 32]] : List ar).length 9 (row cS ([[32, 102, 105, 110, 97, 108, 108, 121, 32]] : List ar))]) fun GD => (lg (UF _ _ _ _ h GD rfl rfl) (tk [0, 1] ⟨.p, .l, .i, .i, ⟨⟩⟩ ⟨(ob rfl ⟨.aM, .o, ⟨⟩⟩), od, ⟨⟩⟩))))⟩)⟩⟩⟩
 obtain rfl := si h
 exact en [0, 1] ⟨C9, rfl, rfl⟩ (.br ⟨⟩) ⟨(ob rfl ⟨.aM, .o, ⟨⟩⟩), od, ⟨⟩⟩
 intro F0 F1 lx ly fx hU gO o h
 exact .mk F0 lx F1 ly fx hU gO o h
 intro _ amc a0 a1 r h g1000 g1001
 refine gd Tryz.func156 ?_
 refine .d ⟨row cS ([[40]] : List ar), aC cS ([[40]] : List ar) rfl (aB rfl), (bk h fun FA amd h => (cm (aw (g1000 := g1000) (g1001 := g1001) (g1002 := 0) amd) [0, 1, 2] ⟨cw, ov, ov, ⟨⟩⟩ ?_))⟩
 rintro _ _ ⟨PQ, apT, rfl, rfl⟩
 refine ⟨.aV [], [.row g1000 2 1 51 (fun _ => [aM PQ 0 g1000, .own 1 PQ 0 FA.af.aq.length]), .row PQ 1 FA.af.aq.length 5 (row cB FA.af.aq), .row apT 1 ([[40]] : List ar).length 9 (row cS ([[40]] : List ar))], rfl, atv, ?_⟩
 obtain ⟨aaA, ame, amf⟩ := bd h
 replace h := ame
 refine .cut (fun σ η => ∃ CS, ∃ Mh : Nat, CS = aaA ∧ σ = [(0, .aL 0 g1000 0 0)] ∧ η = [.row g1000 2 1 51 (fun _ => [aM Mh 0 g1000, .own 1 Mh 0 CS.length]), .row Mh 1 CS.length 5 (row cB CS)]) ?_ ?_
 refine .d ?_
 have amg := amc _ _ _ _ h
 refine le (nL (motive := fun amh hI gq ami => ∀ GF : Nat, a1 = amh → aaA = ami → aG _ _ [(0, .aL 0 g1000 0 0), (9, sl 4 ae.cells a1), (10, .int .i64 (a1.length : Int)), (11, .int .i64 gq)] [.row g1000 2 1 51 (fun _ => [aM GF 0 g1000, .own 1 GF 0 hI.length]), .row GF 1 hI.length 5 (row cB hI)]) ?_ a1 FA.af.aq 0 aaA amg PQ rfl rfl) (tk [0, 1] ⟨.p, .l, .i, .i, ⟨⟩⟩ ⟨(ob rfl ⟨.aM, .o, ⟨⟩⟩), od, ⟨⟩⟩)
 intro _ UK _ _ amh hI gq ami h UL GF PR amj
 subst PR
 subst amj
 refine aG.round (.d (.d (sD h (fun JI h => ?_) (fun JI h => ?_))))
 refine .d (.d (bk h fun oZ UM h => ⟨aA UM, _, (ax UM).trans (ae.au oZ), ⟨rfl, _, fun _ => [.int .i64 oZ.ai, .int .i64 oZ.aD, .str oZ.aj, sl 4 ae.cells oZ.ah], rfl, bX rfl, (.d (.d (sD h (fun JJ h => ?_) (fun JJ h => ?_))))⟩⟩))
 refine ⟨row cS ([[44, 32]] : List ar), aC cS ([[44, 32]] : List ar) rfl (aB rfl), (bk h fun zj amk h => (cm (aw (g1000 := g1000) (g1001 := GF) (g1002 := 0) amk) [0, 1, 3] ⟨cw, ov, ov, ⟨⟩⟩ ?_))⟩
 rintro _ _ ⟨aaB, aml, rfl, rfl⟩
 exact ⟨.aV [], [.row g1000 2 1 51 (fun _ => [aM aaB 0 g1000, .own 1 aaB 0 zj.af.aq.length]), .row aaB 1 zj.af.aq.length 5 (row cB zj.af.aq), .row 0 4 1 29 (fun _ => oZ.lit), .row aml 1 ([[44, 32]] : List ar).length 9 (row cS ([[44, 32]] : List ar))], rfl, atv, ⟨rfl, _, rfl, (bk h fun zk amm h => (cH (UK _ _ _ _ amm _ _) [0, 1] ⟨cw, ov, ⟨⟩⟩ (fun GG => .aV []) (fun GG => [.row g1000 2 1 51 (fun _ => [aM GG 0 g1000, .own 1 GG 0 zk.af.aq.length]), .row GG 1 zk.af.aq.length 5 (row cB zk.af.aq), .row 0 4 1 29 (fun _ => oZ.lit), .row aml 1 ([[44, 32]] : List ar).length 9 (row cS ([[44, 32]] : List ar))]) fun GG => (lg (UL _ _ _ _ h GG rfl rfl) (tk [0, 1] ⟨.p, .l, .i, .i, ⟨⟩⟩ ⟨(ob rfl ⟨.aM, .o, ⟨⟩⟩), od, ⟨⟩⟩))))⟩⟩
 exact ⟨rfl, _, rfl, (bk h fun zl amn h => (cH (UK _ _ _ _ amn _ _) [0, 1] ⟨cw, ov, ⟨⟩⟩ (fun GH => .aV []) (fun GH => [.row g1000 2 1 51 (fun _ => [aM GH 0 g1000, .own 1 GH 0 zl.af.aq.length]), .row GH 1 zl.af.aq.length 5 (row cB zl.af.aq), .row 0 4 1 29 (fun _ => oZ.lit)]) fun GH => (lg (UL _ _ _ _ h GH rfl rfl) (tk [0, 1] ⟨.p, .l, .i, .i, ⟨⟩⟩ ⟨(ob rfl ⟨.aM, .o, ⟨⟩⟩), od, ⟨⟩⟩))))⟩
 exact ct ⟨_, GF, si h, rfl, rfl⟩ (tk [0, 1] ⟨.p, ⟨⟩⟩ ⟨(ob rfl ⟨.aM, .o, ⟨⟩⟩), od, ⟨⟩⟩)
 rintro _ _ ⟨CS, Mh, rfl, rfl, rfl⟩
 replace h := amf
 refine ⟨row cS ([[41]] : List ar), aC cS ([[41]] : List ar) rfl (aB rfl), (bk h fun Lc amo h => (cm (aw (g1000 := g1000) (g1001 := Mh) (g1002 := 0) amo) [0, 1, 2] ⟨cw, ov, ov, ⟨⟩⟩ ?_))⟩
 rintro _ _ ⟨PT, apU, rfl, rfl⟩
 refine ⟨.aV [], [.row g1000 2 1 51 (fun _ => [aM PT 0 g1000, .own 1 PT 0 Lc.af.aq.length]), .row PT 1 Lc.af.aq.length 5 (row cB Lc.af.aq), .row apU 1 ([[41]] : List ar).length 9 (row cS ([[41]] : List ar))], rfl, atv, ?_⟩
 obtain rfl := si h
 exact en [0, 1] ⟨PT, rfl, rfl⟩ (.br ⟨⟩) ⟨(ob rfl ⟨.aM, .o, ⟨⟩⟩), od, ⟨⟩⟩
 intro F0 F1 lx ly a1 hI gq o h
 exact .mk F0 lx F1 ly a1 hI gq o h
 intro _ km a0 a1 a2 a3 a4 r h g1000 g1001
 refine gd Tryz.func154 ?_
 refine .d (.d ⟨rfl, ⟨rfl, _, rfl, (bk h fun ZN Az h => ⟨aA Az, _, (ax Az).trans (ae.au ZN), (bk h fun Av I8 h => (cH (km _ _ _ _ I8 _ _) [0, 1] ⟨cw, ov, ⟨⟩⟩ (fun GI => .aV []) (fun GI => [.row g1000 2 1 51 (fun _ => [aM GI 0 g1000, .own 1 GI 0 Av.af.aq.length]), .row GI 1 Av.af.aq.length 5 (row cB Av.af.aq), .row 0 4 1 29 (fun _ => a1.lit)]) fun GI => (.d ⟨row cS ([a3] : List ar), aC cS ([a3] : List ar) rfl (aB rfl), (bk h fun v210 amp h => (cm (aw (g1000 := g1000) (g1001 := GI) (g1002 := 0) amp) [0, 1, 3] ⟨cw, ov, ov, ⟨⟩⟩ ?_))⟩)))⟩)⟩⟩)
 rintro _ _ ⟨aaC, amq, rfl, rfl⟩
 refine ⟨.aV [], [.row g1000 2 1 51 (fun _ => [aM aaC 0 g1000, .own 1 aaC 0 v210.af.aq.length]), .row aaC 1 v210.af.aq.length 5 (row cB v210.af.aq), .row 0 4 1 29 (fun _ => a1.lit), .row amq 1 ([a3] : List ar).length 9 (row cS ([a3] : List ar))], rfl, atv, ⟨rfl, ⟨rfl, _, rfl, (bk h fun ZO UN h => ⟨aA UN, _, (ax UN).trans (ae.au ZO), (bk h fun Lb amr h => (cH (km _ _ _ _ amr _ _) [0, 1] ⟨cw, ov, ⟨⟩⟩ (fun GJ => .aV []) (fun GJ => [.row g1000 2 1 51 (fun _ => [aM GJ 0 g1000, .own 1 GJ 0 Lb.af.aq.length]), .row GJ 1 Lb.af.aq.length 5 (row cB Lb.af.aq), .row 0 4 1 29 (fun _ => a1.lit), .row amq 1 ([a3] : List ar).length 9 (row cS ([a3] : List ar))]) fun GJ => ?_))⟩)⟩⟩⟩
 obtain rfl := si h
 exact en [0, 1] ⟨GJ, rfl, rfl⟩ (.br ⟨⟩) ⟨(ob rfl ⟨.aM, .o, ⟨⟩⟩), od, ⟨⟩⟩
 intro _ ams a0 a1 r h g1000 g1001
 refine gd Tryz.func153 ?_
 refine .d (.d ⟨row cS ([[91]] : List ar), aC cS ([[91]] : List ar) rfl (aB rfl), (bk h fun yC H9 h => (cm (aw (g1000 := g1000) (g1001 := g1001) (g1002 := 0) H9) [0, 1, 3] ⟨cw, ov, ov, ⟨⟩⟩ ?_))⟩)
 rintro _ _ ⟨PU, apV, rfl, rfl⟩
 refine ⟨.aV [], [.row g1000 2 1 51 (fun _ => [aM PU 0 g1000, .own 1 PU 0 yC.af.aq.length]), .row PU 1 yC.af.aq.length 5 (row cB yC.af.aq), .row 0 4 1 29 (fun _ => a1.lit), .row apV 1 ([[91]] : List ar).length 9 (row cS ([[91]] : List ar))], rfl, atv, ?_⟩
 obtain ⟨aaD, amt, amu⟩ := bd h
 replace h := amt
 refine .cut (fun σ η => ∃ CT, ∃ Mi : Nat, CT = aaD ∧ σ = [(0, .aL 0 g1000 0 0)] ∧ η = [.row g1000 2 1 51 (fun _ => [aM Mi 0 g1000, .own 1 Mi 0 CT.length]), .row Mi 1 CT.length 5 (row cB CT)]) ?_ ?_
 refine .d ⟨rfl, ⟨rfl, _, rfl, ?_⟩⟩
 have amv := ams _ _ _ _ h
 refine le (nM (motive := fun amw hJ gl amx => ∀ Da : Nat, a1 = amw → aaD = amx → aG _ _ [(0, .aL 0 g1000 0 0), (10, sl 4 ae.cells a1.ah), (11, .int .i64 (a1.ah.length : Int)), (12, .int .i64 gl)] [.row g1000 2 1 51 (fun _ => [aM Da 0 g1000, .own 1 Da 0 hJ.length]), .row Da 1 hJ.length 5 (row cB hJ)]) ?_ a1 yC.af.aq 0 aaD amv PU rfl rfl) (tk [0, 1] ⟨.p, .l, .i, .i, ⟨⟩⟩ ⟨(ob rfl ⟨.aM, .o, ⟨⟩⟩), od, ⟨⟩⟩)
 intro _ amy _ amz _ _ amw hJ gl amx h UO Da PW amA
 subst PW
 subst amA
 refine aG.round (.d (.d (sD h (fun Al h => ?_) (fun Al h => ?_))))
 refine .d (.d (bk h fun k5 rj h => ⟨aA rj, _, (ax rj).trans (ae.au k5), ⟨rfl, _, fun _ => [.int .i64 k5.ai, .int .i64 k5.aD, .str k5.aj, sl 4 ae.cells k5.ah], rfl, bX rfl, ?_⟩⟩))
 obtain ⟨apW, amB, amC⟩ := bd h
 replace h := amB
 refine .cut (fun σ η => ∃ rU, ∃ PY : Nat, rU = apW ∧ σ = [(0, .aL 0 g1000 0 0), (5, .aL 2 0 0 0), (10, sl 4 ae.cells a1.ah), (11, .int .i64 (a1.ah.length : Int)), (12, .int .i64 gl)] ∧ η = [.row g1000 2 1 51 (fun _ => [aM PY 0 g1000, .own 1 PY 0 rU.length]), .row PY 1 rU.length 5 (row cB rU), .row 0 4 1 29 (fun _ => k5.lit)]) ?_ ?_
 refine .d (sD h (fun amD h => ?_) (fun amD h => ?_))
 refine ⟨row cS ([[44, 32]] : List ar), aC cS ([[44, 32]] : List ar) rfl (aB rfl), (bk h fun tZ Ib h => (cm (aw (g1000 := g1000) (g1001 := Da) (g1002 := 0) Ib) [0, 1, 3] ⟨cw, ov, ov, ⟨⟩⟩ ?_))⟩
 rintro _ _ ⟨PZ, apX, rfl, rfl⟩
 exact ⟨.aV [], [.row g1000 2 1 51 (fun _ => [aM PZ 0 g1000, .own 1 PZ 0 tZ.af.aq.length]), .row PZ 1 tZ.af.aq.length 5 (row cB tZ.af.aq), .row 0 4 1 29 (fun _ => k5.lit), .row apX 1 ([[44, 32]] : List ar).length 9 (row cS ([[44, 32]] : List ar))], rfl, atv, (ct ⟨_, PZ, si h, rfl, rfl⟩ (tk [0, 1, 2] ⟨.p, .p, .l, .i, .i, ⟨⟩⟩ ⟨(ob rfl ⟨.aM, .o, ⟨⟩⟩), od, (cF rfl), ⟨⟩⟩))⟩
 exact ct ⟨_, Da, si h, rfl, rfl⟩ (tk [0, 1, 2] ⟨.p, .p, .l, .i, .i, ⟨⟩⟩ ⟨(ob rfl ⟨.aM, .o, ⟨⟩⟩), od, (cF rfl), ⟨⟩⟩)
 rintro _ _ ⟨rU, PY, rfl, rfl, rfl⟩
 replace h := amC
 refine .d ⟨rfl, ⟨rfl, _, rfl, (sE h (fun amE h => ?_) (fun amE h => ?_))⟩⟩
 exact ⟨rfl, _, rfl, (bk h fun zm amF h => (cH (amz _ _ _ _ _ _ amF _ _) [0, 1] ⟨cw, ov, ⟨⟩⟩ (fun GK => .aV []) (fun GK => [.row g1000 2 1 51 (fun _ => [aM GK 0 g1000, .own 1 GK 0 zm.af.aq.length]), .row GK 1 zm.af.aq.length 5 (row cB zm.af.aq), .row 0 4 1 29 (fun _ => k5.lit)]) fun GK => (lg (UO _ _ _ _ h GK rfl rfl) (tk [0, 1] ⟨.p, .l, .i, .i, ⟨⟩⟩ ⟨(ob rfl ⟨.aM, .o, ⟨⟩⟩), od, ⟨⟩⟩))))⟩
 exact ⟨rfl, ⟨rfl, _, rfl, (bk h fun C2 UP h => ⟨aA UP, _, (ax UP).trans (ae.au C2), (bk h fun zn amG h => (cH (amy _ _ _ _ amG _ _) [0, 1] ⟨cw, ov, ⟨⟩⟩ (fun GL => .aV []) (fun GL => [.row g1000 2 1 51 (fun _ => [aM GL 0 g1000, .own 1 GL 0 zn.af.aq.length]), .row GL 1 zn.af.aq.length 5 (row cB zn.af.aq), .row 0 4 1 29 (fun _ => k5.lit)]) fun GL => (lg (UO _ _ _ _ h GL rfl rfl) (tk [0, 1] ⟨.p, .l, .i, .i, ⟨⟩⟩ ⟨(ob rfl ⟨.aM, .o, ⟨⟩⟩), od, ⟨⟩⟩))))⟩)⟩⟩
 exact ct ⟨_, Da, si h, rfl, rfl⟩ (tk [0, 1] ⟨.p, ⟨⟩⟩ ⟨(ob rfl ⟨.aM, .o, ⟨⟩⟩), od, ⟨⟩⟩)
 rintro _ _ ⟨CT, Mi, rfl, rfl, rfl⟩
 replace h := amu
 refine ⟨row cS ([[93]] : List ar), aC cS ([[93]] : List ar) rfl (aB rfl), (bk h fun AR JN h => (cm (aw (g1000 := g1000) (g1001 := Mi) (g1002 := 0) JN) [0, 1, 2] ⟨cw, ov, ov, ⟨⟩⟩ ?_))⟩
 rintro _ _ ⟨P0, apY, rfl, rfl⟩
 refine ⟨.aV [], [.row g1000 2 1 51 (fun _ => [aM P0 0 g1000, .own 1 P0 0 AR.af.aq.length]), .row P0 1 AR.af.aq.length 5 (row cB AR.af.aq), .row apY 1 ([[93]] : List ar).length 9 (row cS ([[93]] : List ar))], rfl, atv, ?_⟩
 obtain rfl := si h
 exact en [0, 1] ⟨P0, rfl, rfl⟩ (.br ⟨⟩) ⟨(ob rfl ⟨.aM, .o, ⟨⟩⟩), od, ⟨⟩⟩
 intro F0 F1 F2 lx ly hF2 a1 hJ gl o h
 exact .mk F0 lx F1 ly F2 hF2 a1 hJ gl o h
theorem rY {a0 : av} {a1 : ae} {r : av} {g1000 : Nat} {g1001 : Nat} (h : aQ a0 a1 = some r) : ACall Tryz.prog 42 [.aL 0 g1000 0 0, .agg a1.lit] [.row g1000 2 1 51 (fun _ => [aM g1001 0 g1000, .own 1 g1001 0 a0.af.aq.length]), .row g1001 1 a0.af.aq.length 5 (row cB a0.af.aq)] (fun res h => ∃ G1 : Nat, res = .aV [] ∧ h = [.row g1000 2 1 51 (fun _ => [aM G1 0 g1000, .own 1 G1 0 r.af.aq.length]), .row G1 1 r.af.aq.length 5 (row cB r.af.aq)]) := qF.2.2.2.1 a0 a1 r h g1000 g1001
def iT (a0 : ae) : Option (ar) :=
 kK a0 >>= fun v1 =>
 (if v1 = true then
 aQ (av.mk (aF.mk () ([] : List UInt8))) a0 >>= fun v4 =>
 eE v4.af >>= fun (v7, v8) =>
 some v7
 else
 some [])
theorem uh {a0 : ae} {r : ar} (h : iT a0 = some r) : ACall Tryz.prog 13 [.agg a0.lit] [] (fun res h => res = .str r ∧ h = []) := by
 refine gd Tryz.func13 ?_
 unfold iT at h
 refine .d (.d (.d ⟨rfl, _, rfl, (bk h fun v1 lz h => (aS (yR lz) (l7 h (fun ow h => ?_) (fun ow h => ?_))))⟩))
 exact .d (eS h)
 refine .d ⟨rfl, _, fun _ => [.dt, .bf], rfl, bX rfl, (.d ⟨rfl, _, rfl, (pcG 1 (h2 := [.row 0 4 1 29 (fun _ => a0.lit), .row 0 2 1 51 (fun _ => [aM 0 1 0, .own 2 0 0 ([] : List UInt8).length]), .row 0 1 ([] : List UInt8).length 5 (row cB ([] : List UInt8))]) (bk h fun v4 uP h => (cH (rY (g1000 := 0) (g1001 := 0) uP) [1, 2] ⟨cw, ov, ⟨⟩⟩ (fun g6 => .aV []) (fun g6 => [.row 0 4 1 29 (fun _ => a0.lit), .row 0 2 1 51 (fun _ => [aM g6 1 0, .own 2 g6 0 v4.af.aq.length]), .row g6 1 v4.af.aq.length 5 (row cB v4.af.aq)]) fun g6 => (.d ⟨rfl, ?_⟩))))⟩)⟩
 obtain ⟨⟨v7, v8⟩, hv9, h⟩ := bd h
 refine cm (mQ (g1000 := 0) (g1001 := g6) hv9) [1, 2] ⟨cw, ov, ⟨⟩⟩ ?_
 rintro _ _ ⟨rfl, rfl⟩
 exact ⟨.str v7, [.row 0 4 1 29 (fun _ => a0.lit), .dead, .dead], rfl, atv, (eS h)⟩
end Go.Am
