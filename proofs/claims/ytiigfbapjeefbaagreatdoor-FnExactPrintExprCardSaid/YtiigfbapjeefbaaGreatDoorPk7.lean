/- Texts of the proof, joined and shortened. -/
import Derived.Test.YtiigfbapjeefbaaGreatDoorPk6
set_option linter.unusedVariables false
set_option linter.unusedSimpArgs false
set_option maxRecDepth 100000
namespace Go.Am
open Go Go.RowKit Go.Proofs
def ef (a1 : List ar) (l2 : List UInt8) (y3 : Int) : Option (av) :=
 (if y3 < (a1.length : Int) then
 idx a1 y3 >>= fun x7 =>
 eE (aF.mk () l2) x7 >>= fun (v9, v10, v11) =>
 ef a1 v11.aq (aT (y3 + 1))
 else
 some (av.mk (aF.mk () l2)))
partial_fixpoint
def ao (a0 : av) (a1 : List ar) : Option (av) :=
 ef a1 a0.af.aq 0
theorem aw {a0 : av} {a1 : List ar} {r : av} {g1000 : Nat} {g1001 : Nat} {g1002 : Nat} (h : ao a0 a1 = some r) : ACall Tryz.prog 48 [.aM 0 g1000 0 0, .own 2 g1002 0 a1.length] [.row g1000 2 1 51 (fun _ => [aN g1001 0 g1000, .own 1 g1001 0 a0.af.aq.length]), .row g1001 1 a0.af.aq.length 5 (row cB a0.af.aq), .row g1002 1 a1.length 9 (row cS a1)] (fun res h => ∃ G1 : Nat, ∃ G2 : Nat, res = .aU [] ∧ h = [.row g1000 2 1 51 (fun _ => [aN G1 0 g1000, .own 1 G1 0 r.af.aq.length]), .row G1 1 r.af.aq.length 5 (row cB r.af.aq), .row G2 1 a1.length 9 (row cS a1)]) := by
 refine gd Tryz.func48 ?_
 unfold ao at h
 refine .d ⟨rfl, ?_⟩
 refine le (ef.partial_correctness a1 (motive := fun l2 y3 o14 => ∀ g1 : Nat, r = o14 → aG _ _ [(0, .aM 0 g1000 0 0), (6, .own 2 g1002 0 a1.length), (7, .int .i64 (a1.length : Int)), (8, .int .i64 y3)] [.row g1000 2 1 51 (fun _ => [aN g1 0 g1000, .own 1 g1 0 l2.length]), .row g1 1 l2.length 5 (row cB l2), .row g1002 1 a1.length 9 (row cS a1)]) ?_ a0.af.aq 0 r h g1001 rfl) (tk [0, 1, 2] ⟨.p, .o, .i, .i, ⟨⟩⟩ ⟨(ob rfl ⟨.aN, .o, ⟨⟩⟩), od, od, ⟨⟩⟩)
 intro F5 ih4 l2 y3 o14 h g1 ao8
 subst ao8
 refine aG.round (.d (.d (sD h (fun xA h => ?_) (fun xA h => ?_))))
 refine .d (.d (bk h fun x7 hx8 h => ⟨rfl, aA hx8, _, ard _, ⟨rfl, _, ((ax hx8).trans rfl), ⟨rfl, ⟨rfl, ?_⟩⟩⟩⟩))
 obtain ⟨⟨v9, v10, v11⟩, CO, h⟩ := bd h
 exact cH (k5 (g1000 := g1000) (g1001 := g1) CO) [0, 1] ⟨cw, ov, ⟨⟩⟩ (fun g13 => .aU [.int .i64 v9, .fO]) (fun g13 => [.row g1000 2 1 51 (fun _ => [aN g13 0 g1000, .own 1 g13 0 v11.aq.length]), .row g13 1 v11.aq.length 5 (row cB v11.aq), .row g1002 1 a1.length 9 (row cS a1)]) fun g13 => (lg (ih4 _ _ _ h g13 rfl) (tk [0, 1, 2] ⟨.p, .o, .i, .i, ⟨⟩⟩ ⟨(ob rfl ⟨.aN, .o, ⟨⟩⟩), od, od, ⟨⟩⟩))
 obtain rfl := si h
 exact en [0, 1, 2] ⟨g1, g1002, rfl, rfl⟩ (.bq ⟨⟩) ⟨(ob rfl ⟨.aN, .o, ⟨⟩⟩), od, od, ⟨⟩⟩
def bL (a1 : List ae) (a2 : Int) (uk : List UInt8) (b12 : Bool) (O8 : Int) : Option ((List UInt8)) :=
 (if O8 < (a1.length : Int) then
 idx a1 O8 >>= fun nJ =>
 (if nJ.ai = a2 then
 (
 (if b12 = true then
 some uk
 else
 ao (av.mk (aF.mk () uk)) ([[44, 32]] : List ar) >>= fun G9 =>
 some G9.af.aq)
 : Option ((List UInt8))) >>= fun T2 =>
 (if nJ.aD = 1 then
 ao (av.mk (aF.mk () T2)) ([[38]] : List ar) >>= fun v31 =>
 ao v31 ([[36], nJ.aj] : List ar) >>= fun zU =>
 bL a1 a2 zU.af.aq false (aT (O8 + 1))
 else
 ao (av.mk (aF.mk () T2)) ([[36], nJ.aj] : List ar) >>= fun v39 =>
 bL a1 a2 v39.af.aq false (aT (O8 + 1)))
 else
 bL a1 a2 uk b12 (aT (O8 + 1)))
 else
 some uk)
partial_fixpoint
def df (a0 : av) (a1 : List ae) (a2 : Int) : Option (av) :=
 ao a0 ([[40]] : List ar) >>= fun v1 =>
 (
 bL a1 a2 v1.af.aq true 0
 : Option ((List UInt8))) >>= fun l6 =>
 ao (av.mk (aF.mk () l6)) ([[41]] : List ar) >>= fun KT =>
 some KT
theorem jI {a0 : av} {a1 : List ae} {a2 : Int} {r : av} {g1000 : Nat} {g1001 : Nat} (h : df a0 a1 a2 = some r) : ACall Tryz.prog 159 [.aM 0 g1000 0 0, sl 4 ae.cells a1, .int .i64 a2] [.row g1000 2 1 51 (fun _ => [aN g1001 0 g1000, .own 1 g1001 0 a0.af.aq.length]), .row g1001 1 a0.af.aq.length 5 (row cB a0.af.aq)] (fun res h => ∃ G1 : Nat, res = .aU [] ∧ h = [.row g1000 2 1 51 (fun _ => [aN G1 0 g1000, .own 1 G1 0 r.af.aq.length]), .row G1 1 r.af.aq.length 5 (row cB r.af.aq)]) := by
 refine gd Tryz.func159 ?_
 unfold df at h
 refine .d ⟨row cS ([[40]] : List ar), aC cS ([[40]] : List ar) rfl (aB rfl), (bk h fun v1 lx h => (cm (aw (g1000 := g1000) (g1001 := g1001) (g1002 := 0) lx) [0, 1, 2] ⟨cw, ov, ov, ⟨⟩⟩ ?_))⟩
 rintro _ _ ⟨g3, g4, rfl, rfl⟩
 refine ⟨.aU [], [.row g1000 2 1 51 (fun _ => [aN g3 0 g1000, .own 1 g3 0 v1.af.aq.length]), .row g3 1 v1.af.aq.length 5 (row cB v1.af.aq), .row g4 1 ([[40]] : List ar).length 9 (row cS ([[40]] : List ar))], rfl, atu, (.d ?_)⟩
 obtain ⟨o7, ho8, hk9⟩ := bd h
 replace h := ho8
 refine .cut (fun σ η => ∃ l6, ∃ g5 : Nat, l6 = o7 ∧ σ = [(0, .aM 0 g1000 0 0)] ∧ η = [.row g1000 2 1 51 (fun _ => [aN g5 0 g1000, .own 1 g5 0 l6.length]), .row g5 1 l6.length 5 (row cB l6)]) ?_ ?_
 refine .d ?_
 refine le (bL.partial_correctness a1 a2 (motive := fun uk b12 O8 o43 => ∀ g10 : Nat, o7 = o43 → aG _ _ [(0, .aM 0 g1000 0 0), (2, .int .i64 a2), (6, .bool b12), (12, sl 4 ae.cells a1), (13, .int .i64 (a1.length : Int)), (14, .int .i64 O8)] [.row g1000 2 1 51 (fun _ => [aN g10 0 g1000, .own 1 g10 0 uk.length]), .row g10 1 uk.length 5 (row cB uk)]) ?_ v1.af.aq true 0 o7 h g3 rfl) (tk [0, 1] ⟨.p, .i, .b, .l, .i, .i, ⟨⟩⟩ ⟨(ob rfl ⟨.aN, .o, ⟨⟩⟩), od, ⟨⟩⟩)
 intro F15 ZD uk b12 O8 o43 h g10 ao9
 subst ao9
 refine aG.round (.d (.d (sD h (fun pT h => ?_) (fun pT h => ?_))))
 refine .d (.d (bk h fun nJ pZ h => ⟨aA pZ, _, (ax pZ).trans (ae.au nJ), ⟨rfl, _, fun _ => [.int .i64 nJ.ai, .int .i64 nJ.aD, .str nJ.aj, sl 4 ae.cells nJ.ah], rfl, bX rfl, (.d (.d ⟨rfl, ⟨rfl, _, rfl, (sN h (fun zb h => ?_) (fun zb h => ?_))⟩⟩))⟩⟩))
 exact lg (ZD _ _ _ _ h g10 rfl) (tk [0, 1] ⟨.p, .i, .b, .l, .i, .i, ⟨⟩⟩ ⟨(ob rfl ⟨.aN, .o, ⟨⟩⟩), od, ⟨⟩⟩)
 obtain ⟨ZE, apa, apb⟩ := bd h
 replace h := apa
 refine .cut (fun σ η => ∃ T2, ∃ g20 : Nat, T2 = ZE ∧ σ = [(0, .aM 0 g1000 0 0), (2, .int .i64 a2), (8, .aM 2 0 0 0), (12, sl 4 ae.cells a1), (13, .int .i64 (a1.length : Int)), (14, .int .i64 O8)] ∧ η = [.row g1000 2 1 51 (fun _ => [aN g20 0 g1000, .own 1 g20 0 T2.length]), .row g20 1 T2.length 5 (row cB T2), .row 0 4 1 29 (fun _ => nJ.lit)]) ?_ ?_
 refine .d (l8 h (fun Fx h => ?_) (fun Fx h => ?_))
 refine ⟨row cS ([[44, 32]] : List ar), aC cS ([[44, 32]] : List ar) rfl (aB rfl), (bk h fun G9 ZF h => (cm (aw (g1000 := g1000) (g1001 := g10) (g1002 := 0) ZF) [0, 1, 3] ⟨cw, ov, ov, ⟨⟩⟩ ?_))⟩
 rintro _ _ ⟨g28, g29, rfl, rfl⟩
 exact ⟨.aU [], [.row g1000 2 1 51 (fun _ => [aN g28 0 g1000, .own 1 g28 0 G9.af.aq.length]), .row g28 1 G9.af.aq.length 5 (row cB G9.af.aq), .row 0 4 1 29 (fun _ => nJ.lit), .row g29 1 ([[44, 32]] : List ar).length 9 (row cS ([[44, 32]] : List ar))], rfl, atu, (ct ⟨_, g28, si h, rfl, rfl⟩ (tk [0, 1, 2] ⟨.p, .i, .p, .l, .i, .i, ⟨⟩⟩ ⟨(ob rfl ⟨.aN, .o, ⟨⟩⟩), od, (cF rfl), ⟨⟩⟩))⟩
 exact ct ⟨_, g10, si h, rfl, rfl⟩ (tk [0, 1, 2] ⟨.p, .i, .p, .l, .i, .i, ⟨⟩⟩ ⟨(ob rfl ⟨.aN, .o, ⟨⟩⟩), od, (cF rfl), ⟨⟩⟩)
 rintro _ _ ⟨T2, g20, rfl, rfl, rfl⟩
 replace h := apb
 refine .d (.d (.d ⟨rfl, ⟨rfl, _, rfl, (sE h (fun ZG h => ?_) (fun ZG h => ?_))⟩⟩))
 refine ⟨row cS ([[38]] : List ar), aC cS ([[38]] : List ar) rfl (aB rfl), (bk h fun v31 apc h => (cm (aw (g1000 := g1000) (g1001 := g20) (g1002 := 0) apc) [0, 1, 3] ⟨cw, ov, ov, ⟨⟩⟩ ?_))⟩
 rintro _ _ ⟨g33, g34, rfl, rfl⟩
 refine ⟨.aU [], [.row g1000 2 1 51 (fun _ => [aN g33 0 g1000, .own 1 g33 0 v31.af.aq.length]), .row g33 1 v31.af.aq.length 5 (row cB v31.af.aq), .row 0 4 1 29 (fun _ => nJ.lit), .row g34 1 ([[38]] : List ar).length 9 (row cS ([[38]] : List ar))], rfl, atu, ⟨rfl, ⟨rfl, _, rfl, ⟨row cS ([[36], nJ.aj] : List ar), aC cS ([[36], nJ.aj] : List ar) rfl (aB rfl), (bk h fun zU Hx h => (cm (aw (g1000 := g1000) (g1001 := g33) (g1002 := 0) Hx) [0, 1, 4] ⟨cw, ov, ov, ⟨⟩⟩ ?_))⟩⟩⟩⟩
 rintro _ _ ⟨O9, g38, rfl, rfl⟩
 exact ⟨.aU [], [.row g1000 2 1 51 (fun _ => [aN O9 0 g1000, .own 1 O9 0 zU.af.aq.length]), .row O9 1 zU.af.aq.length 5 (row cB zU.af.aq), .row 0 4 1 29 (fun _ => nJ.lit), .row g34 1 ([[38]] : List ar).length 9 (row cS ([[38]] : List ar)), .row g38 1 ([[36], nJ.aj] : List ar).length 9 (row cS ([[36], nJ.aj] : List ar))], rfl, atu, (lg (ZD _ _ _ _ h O9 rfl) (tk [0, 1] ⟨.p, .i, .b, .l, .i, .i, ⟨⟩⟩ ⟨(ob rfl ⟨.aN, .o, ⟨⟩⟩), od, ⟨⟩⟩))⟩
 refine ⟨rfl, ⟨rfl, _, rfl, ⟨row cS ([[36], nJ.aj] : List ar), aC cS ([[36], nJ.aj] : List ar) rfl (aB rfl), (bk h fun v39 apd h => (cm (aw (g1000 := g1000) (g1001 := g20) (g1002 := 0) apd) [0, 1, 3] ⟨cw, ov, ov, ⟨⟩⟩ ?_))⟩⟩⟩
 rintro _ _ ⟨g41, g42, rfl, rfl⟩
 exact ⟨.aU [], [.row g1000 2 1 51 (fun _ => [aN g41 0 g1000, .own 1 g41 0 v39.af.aq.length]), .row g41 1 v39.af.aq.length 5 (row cB v39.af.aq), .row 0 4 1 29 (fun _ => nJ.lit), .row g42 1 ([[36], nJ.aj] : List ar).length 9 (row cS ([[36], nJ.aj] : List ar))], rfl, atu, (lg (ZD _ _ _ _ h g41 rfl) (tk [0, 1] ⟨.p, .i, .b, .l, .i, .i, ⟨⟩⟩ ⟨(ob rfl ⟨.aN, .o, ⟨⟩⟩), od, ⟨⟩⟩))⟩
 exact ct ⟨_, g10, si h, rfl, rfl⟩ (tk [0, 1] ⟨.p, ⟨⟩⟩ ⟨(ob rfl ⟨.aN, .o, ⟨⟩⟩), od, ⟨⟩⟩)
 rintro _ _ ⟨l6, g5, rfl, rfl, rfl⟩
 replace h := hk9
 refine ⟨row cS ([[41]] : List ar), aC cS ([[41]] : List ar) rfl (aB rfl), (bk h fun KT ZH h => (cm (aw (g1000 := g1000) (g1001 := g5) (g1002 := 0) ZH) [0, 1, 2] ⟨cw, ov, ov, ⟨⟩⟩ ?_))⟩
 rintro _ _ ⟨KU, g48, rfl, rfl⟩
 refine ⟨.aU [], [.row g1000 2 1 51 (fun _ => [aN KU 0 g1000, .own 1 KU 0 KT.af.aq.length]), .row KU 1 KT.af.aq.length 5 (row cB KT.af.aq), .row g48 1 ([[41]] : List ar).length 9 (row cS ([[41]] : List ar))], rfl, atu, ?_⟩
 obtain rfl := si h
 exact en [0, 1] ⟨KU, rfl, rfl⟩ (.bq ⟨⟩) ⟨(ob rfl ⟨.aN, .o, ⟨⟩⟩), od, ⟨⟩⟩
def bG (a1 : ae) (nz : av) (Fy : Int) : Option ((List UInt8)) :=
 (if Fy < (a1.ah.length : Int) then
 idx a1.ah Fy >>= fun zc =>
 (if zc.ai = 25 then
 ao nz ([[32, 117, 115, 101, 32]] : List ar) >>= fun KV =>
 df KV a1.ah 25 >>= fun KW =>
 some KW.af.aq
 else
 bG a1 nz (aT (Fy + 1)))
 else
 some nz.af.aq)
partial_fixpoint
mutual
def aJ (a0 : av) (a1 : ae) (a2 : Int) : Option (av) :=
 kO a1 >>= fun v1 =>
 (if v1 < a2 then
 ao a0 ([[40]] : List ar) >>= fun v4 =>
 fM v4 a1 >>= fun v8 =>
 ao v8 ([[41]] : List ar) >>= fun v11 =>
 some v11
 else
 fM a0 a1 >>= fun wG =>
 some wG)
partial_fixpoint
def fM (a0 : av) (a1 : ae) : Option (av) :=
 (if a1.ai = 1 then
 jq a1.aD >>= fun yD =>
 ao a0 ([yD] : List ar) >>= fun v21 =>
 some v21
 else
 (if a1.ai = 2 then
 ic a1.aj >>= fun G9 =>
 ao a0 ([G9] : List ar) >>= fun v28 =>
 some v28
 else
 (if a1.ai = 3 then
 idx ([[110, 117, 108, 108], [102, 97, 108, 115, 101], [116, 114, 117, 101]] : List ar) a1.aD >>= fun Nk =>
 ao a0 ([Nk] : List ar) >>= fun zU =>
 some zU
 else
 (if a1.ai = 4 then
 ao a0 ([[36], a1.aj] : List ar) >>= fun v40 =>
 some v40
 else
 (if a1.ai = 5 then
 jz a0 a1 >>= fun KT =>
 some KT
 else
 (if a1.ai = 7 then
 idx a1.ah 0 >>= fun x49 =>
 aJ a0 x49 12 >>= fun v51 =>
 ao v51 ([[91]] : List ar) >>= fun T3 =>
 idx a1.ah 1 >>= fun x58 =>
 aJ T3 x58 1 >>= fun T4 =>
 ao T4 ([[93]] : List ar) >>= fun Jn =>
 some Jn
 else
 (if a1.ai = 8 then
 idx a1.ah 0 >>= fun x68 =>
 aJ a0 x68 12 >>= fun v70 =>
 ao v70 ([[45, 62], a1.aj] : List ar) >>= fun v73 =>
 some v73
 else
 (if a1.ai = 9 then
 idx ([[], [33], [45]] : List ar) a1.aD >>= fun T5 =>
 ao a0 ([T5] : List ar) >>= fun v80 =>
 idx a1.ah 0 >>= fun x84 =>
 aJ v80 x84 11 >>= fun v86 =>
 some v86
 else
 (if a1.ai = 10 then
 jM a1.aD >>= fun v90 =>
 j6 a1.aD >>= fun v92 =>
 aH [32] v92 >>= fun s94 =>
 aH s94 [32] >>= fun s96 =>
 bA a0 a1 v90 s96 (aT (v90 + 1)) >>= fun QZ =>
 some QZ
 else
 (if a1.ai = 11 then
 bA a0 a1 5 [32, 38, 38, 32] 6 >>= fun KX =>
 some KX
 else
 (if a1.ai = 12 then
 bA a0 a1 4 [32, 124, 124, 32] 5 >>= fun KY =>
 some KY
 else
 (if a1.ai = 13 then
 bA a0 a1 4 [32, 63, 63, 32] 3 >>= fun KZ =>
 some KZ
 else
 (if a1.ai = 14 then
 bA a0 a1 3 [32, 63, 32] 1 >>= fun K0 =>
 ao K0 ([[32, 58, 32]] : List ar) >>= fun v117 =>
 idx a1.ah 2 >>= fun ZI =>
 aJ v117 ZI 2 >>= fun K1 =>
 some K1
 else
 (if a1.ai = 15 then
 bA a0 a1 12 [32, 61, 32] 1 >>= fun v127 =>
 some v127
 else
 (if a1.ai = 16 then
 bA a0 a1 12 [91, 93, 32, 61, 32] 1 >>= fun v131 =>
 some v131
 else
 (if a1.ai = 17 then
 idx a1.ah 0 >>= fun CP =>
 ao a0 ([[36], a1.aj, [32, 61, 32, 38, 36], CP.aj] : List ar) >>= fun K2 =>
 some K2
 else
 (
 (if a1.ai = 18 then
 some (a1.ai == 18)
 else
 some (a1.ai == 21))
 : Option (Bool)) >>= fun K3 =>
 (if K3 = true then
 ao a0 ([a1.aj] : List ar) >>= fun AL =>
 dn AL a1.ah >>= fun K4 =>
 some K4
 else
 (if a1.ai = 22 then
 ao a0 ([[110, 101, 119, 32], a1.aj] : List ar) >>= fun uS =>
 dn uS a1.ah >>= fun v159 =>
 some v159
 else
 (if a1.ai = 20 then
 idx a1.ah 0 >>= fun ZJ =>
 aJ a0 ZJ 12 >>= fun uN =>
 ao uN ([[45, 62], a1.aj] : List ar) >>= fun v168 =>
 jK a1.ah 1 >>= fun Pa =>
 dn v168 Pa >>= fun z6 =>
 some z6
 else
 (if a1.ai = 19 then
 idx a1.ah 0 >>= fun ZK =>
 (if ZK.ai = 8 then
 idx a1.ah 0 >>= fun qu =>
 aJ a0 qu 13 >>= fun v183 =>
 jK a1.ah 1 >>= fun Pb =>
 dn v183 Pb >>= fun K5 =>
 some K5
 else
 idx a1.ah 0 >>= fun ZL =>
 aJ a0 ZL 12 >>= fun v193 =>
 jK a1.ah 1 >>= fun Pc =>
 dn v193 Pc >>= fun v198 =>
 some v198)
 else
 (if a1.ai = 23 then
 fg a0 a1 >>= fun K6 =>
 some K6
 else
 some a0)))))))))))))))))))))
partial_fixpoint
def bA (a0 : av) (a1 : ae) (a2 : Int) (a3 : ar) (a4 : Int) : Option (av) :=
 idx a1.ah 0 >>= fun ZM =>
 aJ a0 ZM a2 >>= fun Aq =>
 ao Aq ([a3] : List ar) >>= fun v210 =>
 idx a1.ah 1 >>= fun ZN =>
 aJ v210 ZN a4 >>= fun K7 =>
 some K7
partial_fixpoint
def dn (a0 : av) (a1 : List ae) : Option (av) :=
 ao a0 ([[40]] : List ar) >>= fun FA =>
 (
 cJ a1 FA.af.aq 0
 : Option ((List UInt8))) >>= fun CQ =>
 ao (av.mk (aF.mk () CQ)) ([[41]] : List ar) >>= fun K8 =>
 some K8
partial_fixpoint
def jz (a0 : av) (a1 : ae) : Option (av) :=
 ao a0 ([[91]] : List ar) >>= fun yx =>
 (
 cK a1 yx.af.aq 0
 : Option ((List UInt8))) >>= fun CR =>
 ao (av.mk (aF.mk () CR)) ([[93]] : List ar) >>= fun AM =>
 some AM
partial_fixpoint
def fg (a0 : av) (a1 : ae) : Option (av) :=
 ao a0 ([[102, 117, 110, 99, 116, 105, 111, 110, 32]] : List ar) >>= fun K9 =>
 df K9 a1.ah 24 >>= fun nz =>
 (
 bG a1 nz 0
 : Option ((List UInt8))) >>= fun CS =>
 ao (av.mk (aF.mk () CS)) ([[32]] : List ar) >>= fun La =>
 idx a1.ah (aT ((a1.ah.length : Int) - 1)) >>= fun ZO =>
 aX La ZO >>= fun Lb =>
 some Lb
partial_fixpoint
def aX (a0 : av) (a1 : ae) : Option (av) :=
 ao a0 ([[123, 32]] : List ar) >>= fun FB =>
 (
 di a1 FB.af.aq 0
 : Option ((List UInt8))) >>= fun CT =>
 ao (av.mk (aF.mk () CT)) ([[125]] : List ar) >>= fun Lc =>
 some Lc
partial_fixpoint
def ck (a0 : av) (a1 : ar) (a2 : ae) : Option (av) :=
 ao a0 ([a1] : List ar) >>= fun AO =>
 aJ AO a2 1 >>= fun Ld =>
 ao Ld ([[59]] : List ar) >>= fun Le =>
 some Le
partial_fixpoint
def gY (a0 : av) (a1 : ae) : Option (av) :=
 (if a1.ai = 31 then
 ao a0 ([[63, 62, 10], a1.aj, [60, 63, 32]] : List ar) >>= fun Lf =>
 some Lf
 else
 (if a1.ai = 32 then
 idx a1.ah 0 >>= fun yK =>
 ck a0 [101, 99, 104, 111, 32] yK >>= fun wW =>
 some wW
 else
 (if a1.ai = 33 then
 idx a1.ah 0 >>= fun ZP =>
 ck a0 [] ZP >>= fun Lg =>
 some Lg
 else
 (if a1.ai = 34 then
 ao a0 ([[105, 102, 32, 40]] : List ar) >>= fun Lh =>
 idx a1.ah 0 >>= fun ZQ =>
 aJ Lh ZQ 1 >>= fun Li =>
 ao Li ([[41, 32]] : List ar) >>= fun Lj =>
 idx a1.ah 1 >>= fun ZR =>
 aX Lj ZR >>= fun FC =>
 (if (a1.ah.length : Int) = 3 then
 ao FC ([[32, 101, 108, 115, 101, 32]] : List ar) >>= fun Lk =>
 idx a1.ah 2 >>= fun ZS =>
 aX Lk ZS >>= fun Ll =>
 some Ll
 else
 some FC)
 else
 (if a1.ai = 35 then
 ao a0 ([[119, 104, 105, 108, 101, 32, 40]] : List ar) >>= fun Lm =>
 idx a1.ah 0 >>= fun uW =>
 aJ Lm uW 1 >>= fun uc =>
 ao uc ([[41, 32]] : List ar) >>= fun Ln =>
 idx a1.ah 1 >>= fun ZT =>
 aX Ln ZT >>= fun Lo =>
 some Lo
 else
 (if a1.ai = 36 then
 ao a0 ([[102, 111, 114, 101, 97, 99, 104, 32, 40]] : List ar) >>= fun Lp =>
 idx a1.ah 0 >>= fun ZU =>
 aJ Lp ZU 1 >>= fun Lq =>
 idx a1.ah 1 >>= fun zd =>
 ao Lq ([[32, 97, 115, 32, 36], zd.aj] : List ar) >>= fun FD =>
 (
 (if (a1.ah.length : Int) = 4 then
 idx a1.ah 2 >>= fun CU =>
 ao FD ([[32, 61, 62, 32, 36], CU.aj] : List ar) >>= fun Lr =>
 some Lr.af.aq
 else
 some FD.af.aq)
 : Option ((List UInt8))) >>= fun CV =>
 ao (av.mk (aF.mk () CV)) ([[41, 32]] : List ar) >>= fun Ls =>
 idx a1.ah (aT ((a1.ah.length : Int) - 1)) >>= fun ZV =>
 aX Ls ZV >>= fun Lt =>
 some Lt
 else
 (if a1.ai = 37 then
 ao a0 ([[98, 114, 101, 97, 107, 59]] : List ar) >>= fun Lu =>
 some Lu
 else
 (if a1.ai = 38 then
 ao a0 ([[99, 111, 110, 116, 105, 110, 117, 101, 59]] : List ar) >>= fun Lv =>
 some Lv
 else
 (if a1.ai = 39 then
 (if (a1.ah.length : Int) = 0 then
 ao a0 ([[114, 101, 116, 117, 114, 110, 59]] : List ar) >>= fun Lw =>
 some Lw
 else
 idx a1.ah 0 >>= fun ZW =>
 ck a0 [114, 101, 116, 117, 114, 110, 32] ZW >>= fun Lx =>
 some Lx)
 else
 (if a1.ai = 40 then
 ao a0 ([[103, 108, 111, 98, 97, 108, 32, 36], a1.aj, [59]] : List ar) >>= fun Ly =>
 some Ly
 else
 (if a1.ai = 41 then
 ao a0 ([[117, 110, 115, 101, 116, 40]] : List ar) >>= fun Lz =>
 idx a1.ah 0 >>= fun ZX =>
 aJ Lz ZX 12 >>= fun LA =>
 ao LA ([[41, 59]] : List ar) >>= fun LB =>
 some LB
 else
 (if a1.ai = 42 then
 idx a1.ah 0 >>= fun ZY =>
 ck a0 [116, 104, 114, 111, 119, 32] ZY >>= fun LC =>
 some LC
 else
 (if a1.ai = 46 then
 (if (a1.ah.length : Int) = 2 then
 idx a1.ah 0 >>= fun ze =>
 ao a0 ([[36], ze.aj, [32, 61, 32]] : List ar) >>= fun LD =>
 idx a1.ah (aT ((a1.ah.length : Int) - 1)) >>= fun ZZ =>
 ck LD [121, 105, 101, 108, 100, 32] ZZ >>= fun LF =>
 some LF
 else
 idx a1.ah (aT ((a1.ah.length : Int) - 1)) >>= fun Z0 =>
 ck a0 [121, 105, 101, 108, 100, 32] Z0 >>= fun LG =>
 some LG)
 else
 (if a1.ai = 47 then
 ic a1.aj >>= fun FE =>
 ao a0 ([[105, 110, 99, 108, 117, 100, 101, 32], FE, [59]] : List ar) >>= fun LH =>
 some LH
 else
 (if a1.ai = 48 then
 aX a0 a1 >>= fun LI =>
 some LI
 else
 (if a1.ai = 43 then
 dV a0 a1 >>= fun LJ =>
 some LJ
 else
 (if a1.ai = 49 then
 jk a0 a1 >>= fun LK =>
 some LK
 else
 (if a1.ai = 50 then
 kA a0 [99, 108, 97, 115, 115, 32] a1 >>= fun LL =>
 some LL
 else
 (if a1.ai = 51 then
 kA a0 [116, 114, 97, 105, 116, 32] a1 >>= fun LM =>
 some LM
 else
 some a0)))))))))))))))))))
partial_fixpoint
def dV (a0 : av) (a1 : ae) : Option (av) :=
 ao a0 ([[116, 114, 121, 32]] : List ar) >>= fun LN =>
 idx a1.ah 0 >>= fun Z1 =>
 aX LN Z1 >>= fun yE =>
 jK a1.ah 1 >>= fun fx =>
 bJ fx yE.af.aq 0
partial_fixpoint
def jk (a0 : av) (a1 : ae) : Option (av) :=
 ao a0 ([[102, 117, 110, 99, 116, 105, 111, 110, 32], a1.aj] : List ar) >>= fun LO =>
 df LO a1.ah 24 >>= fun LP =>
 ao LP ([[32]] : List ar) >>= fun LQ =>
 idx a1.ah (aT ((a1.ah.length : Int) - 1)) >>= fun Z2 =>
 aX LQ Z2 >>= fun LR =>
 some LR
partial_fixpoint
def kA (a0 : av) (a1 : ar) (a2 : ae) : Option (av) :=
 ao a0 ([a1, a2.aj] : List ar) >>= fun CW =>
 (
 (if (a2.ah.length : Int) > 0 then
 idx a2.ah 0 >>= fun Z3 =>
 (if Z3.ai = 52 then
 idx a2.ah 0 >>= fun CX =>
 ao CW ([[32, 101, 120, 116, 101, 110, 100, 115, 32], CX.aj] : List ar) >>= fun LS =>
 jK a2.ah 1 >>= fun Pd =>
 some (LS.af.aq, Pd)
 else
 some (CW.af.aq, a2.ah))
 else
 some (CW.af.aq, a2.ah))
 : Option ((List UInt8) × (List ae))) >>= fun (CY, dW) =>
 ao (av.mk (aF.mk () CY)) ([[32, 123, 32]] : List ar) >>= fun FF =>
 (
 eD dW FF.af.aq 0
 : Option ((List UInt8))) >>= fun CZ =>
 ao (av.mk (aF.mk () CZ)) ([[125]] : List ar) >>= fun LU =>
 some LU
partial_fixpoint
def cJ (a1 : List ae) (hI : List UInt8) (gq : Int) : Option ((List UInt8)) :=
 (if gq < (a1.length : Int) then
 idx a1 gq >>= fun oZ =>
 (if gq > 0 then
 ao (av.mk (aF.mk () hI)) ([[44, 32]] : List ar) >>= fun zf =>
 aJ zf oZ 1 >>= fun zg =>
 cJ a1 zg.af.aq (aT (gq + 1))
 else
 aJ (av.mk (aF.mk () hI)) oZ 1 >>= fun zh =>
 cJ a1 zh.af.aq (aT (gq + 1)))
 else
 some hI)
partial_fixpoint
def cK (a1 : ae) (hJ : List UInt8) (gl : Int) : Option ((List UInt8)) :=
 (if gl < (a1.ah.length : Int) then
 idx a1.ah gl >>= fun kZ =>
 (
 (if gl > 0 then
 ao (av.mk (aF.mk () hJ)) ([[44, 32]] : List ar) >>= fun tZ =>
 some tZ.af.aq
 else
 some hJ)
 : Option ((List UInt8))) >>= fun rU =>
 (if (kZ.ah.length : Int) = 2 then
 bA (av.mk (aF.mk () rU)) kZ 1 [32, 61, 62, 32] 1 >>= fun zi =>
 cK a1 zi.af.aq (aT (gl + 1))
 else
 idx kZ.ah 0 >>= fun C0 =>
 aJ (av.mk (aF.mk () rU)) C0 1 >>= fun zj =>
 cK a1 zj.af.aq (aT (gl + 1)))
 else
 some hJ)
partial_fixpoint
def di (a1 : ae) (iX : List UInt8) (iH : Int) : Option ((List UInt8)) :=
 (if iH < (a1.ah.length : Int) then
 idx a1.ah iH >>= fun sY =>
 gY (av.mk (aF.mk () iX)) sY >>= fun zk =>
 ao zk ([[32]] : List ar) >>= fun zl =>
 di a1 zl.af.aq (aT (iH + 1))
 else
 some iX)
partial_fixpoint
def bJ (fx : List ae) (hU : List UInt8) (gO : Int) : Option (av) :=
 (if gO < (fx.length : Int) then
 idx fx gO >>= fun jl =>
 (if jl.ai = 44 then
 idx jl.ah 0 >>= fun sZ =>
 ao (av.mk (aF.mk () hU)) ([[32, 99, 97, 116, 99, 104, 32, 40], jl.aj, [32, 36], sZ.aj, [41, 32]] : List ar) >>= fun zm =>
 idx jl.ah 1 >>= fun C1 =>
 aX zm C1 >>= fun zn =>
 bJ fx zn.af.aq (aT (gO + 1))
 else
 ao (av.mk (aF.mk () hU)) ([[32, 102, 105, 110, 97, 108, 108, 121, 32]] : List ar) >>= fun zo =>
 idx jl.ah 0 >>= fun C2 =>
 aX zo C2 >>= fun zp =>
 bJ fx zp.af.aq (aT (gO + 1)))
 else
 some (av.mk (aF.mk () hU)))
partial_fixpoint
def eD (dW : List ae) (gD : List UInt8) (fW : Int) : Option ((List UInt8)) :=
 (if fW < (dW.length : Int) then
 idx dW fW >>= fun fy =>
 (if fy.ai = 53 then
 ao (av.mk (aF.mk () gD)) ([[117, 115, 101, 32], fy.aj, [59, 32]] : List ar) >>= fun zq =>
 eD dW zq.af.aq (aT (fW + 1))
 else
 (
 (if (bits .and .i64 fy.aD 1) = 0 then
 some gD
 else
 ao (av.mk (aF.mk () gD)) ([[112, 114, 105, 118, 97, 116, 101, 32]] : List ar) >>= fun zr =>
 some zr.af.aq)
 : Option ((List UInt8))) >>= fun rV =>
 (
 (if (bits .and .i64 fy.aD 2) = 0 then
 some rV
 else
 ao (av.mk (aF.mk () rV)) ([[115, 116, 97, 116, 105, 99, 32]] : List ar) >>= fun zs =>
 some zs.af.aq)
 : Option ((List UInt8))) >>= fun rW =>
 (if fy.ai = 54 then
 aH [36] fy.aj >>= fun C3 =>
 aH C3 [32, 61, 32] >>= fun C4 =>
 idx fy.ah 0 >>= fun C5 =>
 ck (av.mk (aF.mk () rW)) C4 C5 >>= fun zt =>
 ao zt ([[32]] : List ar) >>= fun zu =>
 eD dW zu.af.aq (aT (fW + 1))
 else
 jk (av.mk (aF.mk () rW)) fy >>= fun zw =>
 ao zw ([[32]] : List ar) >>= fun zx =>
 eD dW zx.af.aq (aT (fW + 1))))
 else
 some gD)
partial_fixpoint
end
def xS (a0 : av) (a1 : ae) (a2 : Int) (r : av) : Prop := ∀ g1000 : Nat, ∀ g1001 : Nat, ACall Tryz.prog 46 [.aM 0 g1000 0 0, .agg a1.lit, .int .i64 a2] [.row g1000 2 1 51 (fun _ => [aN g1001 0 g1000, .own 1 g1001 0 a0.af.aq.length]), .row g1001 1 a0.af.aq.length 5 (row cB a0.af.aq)] (fun res h => ∃ G1 : Nat, res = .aU [] ∧ h = [.row g1000 2 1 51 (fun _ => [aN G1 0 g1000, .own 1 G1 0 r.af.aq.length]), .row G1 1 r.af.aq.length 5 (row cB r.af.aq)])
def T6 (a0 : av) (a1 : ae) (r : av) : Prop := ∀ g1000 : Nat, ∀ g1001 : Nat, ACall Tryz.prog 93 [.aM 0 g1000 0 0, .agg a1.lit] [.row g1000 2 1 51 (fun _ => [aN g1001 0 g1000, .own 1 g1001 0 a0.af.aq.length]), .row g1001 1 a0.af.aq.length 5 (row cB a0.af.aq)] (fun res h => ∃ G1 : Nat, res = .aU [] ∧ h = [.row g1000 2 1 51 (fun _ => [aN G1 0 g1000, .own 1 G1 0 r.af.aq.length]), .row G1 1 r.af.aq.length 5 (row cB r.af.aq)])
def zy (a0 : av) (a1 : ae) (a2 : Int) (a3 : ar) (a4 : Int) (r : av) : Prop := ∀ g1000 : Nat, ∀ g1001 : Nat, ACall Tryz.prog 154 [.aM 0 g1000 0 0, .agg a1.lit, .int .i64 a2, .str a3, .int .i64 a4] [.row g1000 2 1 51 (fun _ => [aN g1001 0 g1000, .own 1 g1001 0 a0.af.aq.length]), .row g1001 1 a0.af.aq.length 5 (row cB a0.af.aq)] (fun res h => ∃ G1 : Nat, res = .aU [] ∧ h = [.row g1000 2 1 51 (fun _ => [aN G1 0 g1000, .own 1 G1 0 r.af.aq.length]), .row G1 1 r.af.aq.length 5 (row cB r.af.aq)])
def LV (a0 : av) (a1 : List ae) (r : av) : Prop := ∀ g1000 : Nat, ∀ g1001 : Nat, ACall Tryz.prog 156 [.aM 0 g1000 0 0, sl 4 ae.cells a1] [.row g1000 2 1 51 (fun _ => [aN g1001 0 g1000, .own 1 g1001 0 a0.af.aq.length]), .row g1001 1 a0.af.aq.length 5 (row cB a0.af.aq)] (fun res h => ∃ G1 : Nat, res = .aU [] ∧ h = [.row g1000 2 1 51 (fun _ => [aN G1 0 g1000, .own 1 G1 0 r.af.aq.length]), .row G1 1 r.af.aq.length 5 (row cB r.af.aq)])
def LW (a0 : av) (a1 : ae) (r : av) : Prop := ∀ g1000 : Nat, ∀ g1001 : Nat, ACall Tryz.prog 153 [.aM 0 g1000 0 0, .agg a1.lit] [.row g1000 2 1 51 (fun _ => [aN g1001 0 g1000, .own 1 g1001 0 a0.af.aq.length]), .row g1001 1 a0.af.aq.length 5 (row cB a0.af.aq)] (fun res h => ∃ G1 : Nat, res = .aU [] ∧ h = [.row g1000 2 1 51 (fun _ => [aN G1 0 g1000, .own 1 G1 0 r.af.aq.length]), .row G1 1 r.af.aq.length 5 (row cB r.af.aq)])
def LX (a0 : av) (a1 : ae) (r : av) : Prop := ∀ g1000 : Nat, ∀ g1001 : Nat, ACall Tryz.prog 157 [.aM 0 g1000 0 0, .agg a1.lit] [.row g1000 2 1 51 (fun _ => [aN g1001 0 g1000, .own 1 g1001 0 a0.af.aq.length]), .row g1001 1 a0.af.aq.length 5 (row cB a0.af.aq)] (fun res h => ∃ G1 : Nat, res = .aU [] ∧ h = [.row g1000 2 1 51 (fun _ => [aN G1 0 g1000, .own 1 G1 0 r.af.aq.length]), .row G1 1 r.af.aq.length 5 (row cB r.af.aq)])
def Em (a0 : av) (a1 : ae) (r : av) : Prop := ∀ g1000 : Nat, ∀ g1001 : Nat, ACall Tryz.prog 42 [.aM 0 g1000 0 0, .agg a1.lit] [.row g1000 2 1 51 (fun _ => [aN g1001 0 g1000, .own 1 g1001 0 a0.af.aq.length]), .row g1001 1 a0.af.aq.length 5 (row cB a0.af.aq)] (fun res h => ∃ G1 : Nat, res = .aU [] ∧ h = [.row g1000 2 1 51 (fun _ => [aN G1 0 g1000, .own 1 G1 0 r.af.aq.length]), .row G1 1 r.af.aq.length 5 (row cB r.af.aq)])
def En (a0 : av) (a1 : ar) (a2 : ae) (r : av) : Prop := ∀ g1000 : Nat, ∀ g1001 : Nat, ACall Tryz.prog 95 [.aM 0 g1000 0 0, .str a1, .agg a2.lit] [.row g1000 2 1 51 (fun _ => [aN g1001 0 g1000, .own 1 g1001 0 a0.af.aq.length]), .row g1001 1 a0.af.aq.length 5 (row cB a0.af.aq)] (fun res h => ∃ G1 : Nat, res = .aU [] ∧ h = [.row g1000 2 1 51 (fun _ => [aN G1 0 g1000, .own 1 G1 0 r.af.aq.length]), .row G1 1 r.af.aq.length 5 (row cB r.af.aq)])
def Eo (a0 : av) (a1 : ae) (r : av) : Prop := ∀ g1000 : Nat, ∀ g1001 : Nat, ACall Tryz.prog 49 [.aM 0 g1000 0 0, .agg a1.lit] [.row g1000 2 1 51 (fun _ => [aN g1001 0 g1000, .own 1 g1001 0 a0.af.aq.length]), .row g1001 1 a0.af.aq.length 5 (row cB a0.af.aq)] (fun res h => ∃ G1 : Nat, res = .aU [] ∧ h = [.row g1000 2 1 51 (fun _ => [aN G1 0 g1000, .own 1 G1 0 r.af.aq.length]), .row G1 1 r.af.aq.length 5 (row cB r.af.aq)])
def T7 (a0 : av) (a1 : ae) (r : av) : Prop := ∀ g1000 : Nat, ∀ g1001 : Nat, ACall Tryz.prog 97 [.aM 0 g1000 0 0, .agg a1.lit] [.row g1000 2 1 51 (fun _ => [aN g1001 0 g1000, .own 1 g1001 0 a0.af.aq.length]), .row g1001 1 a0.af.aq.length 5 (row cB a0.af.aq)] (fun res h => ∃ G1 : Nat, res = .aU [] ∧ h = [.row g1000 2 1 51 (fun _ => [aN G1 0 g1000, .own 1 G1 0 r.af.aq.length]), .row G1 1 r.af.aq.length 5 (row cB r.af.aq)])
def Ep (a0 : av) (a1 : ae) (r : av) : Prop := ∀ g1000 : Nat, ∀ g1001 : Nat, ACall Tryz.prog 98 [.aM 0 g1000 0 0, .agg a1.lit] [.row g1000 2 1 51 (fun _ => [aN g1001 0 g1000, .own 1 g1001 0 a0.af.aq.length]), .row g1001 1 a0.af.aq.length 5 (row cB a0.af.aq)] (fun res h => ∃ G1 : Nat, res = .aU [] ∧ h = [.row g1000 2 1 51 (fun _ => [aN G1 0 g1000, .own 1 G1 0 r.af.aq.length]), .row G1 1 r.af.aq.length 5 (row cB r.af.aq)])
def T8 (a0 : av) (a1 : ar) (a2 : ae) (r : av) : Prop := ∀ g1000 : Nat, ∀ g1001 : Nat, ACall Tryz.prog 99 [.aM 0 g1000 0 0, .str a1, .agg a2.lit] [.row g1000 2 1 51 (fun _ => [aN g1001 0 g1000, .own 1 g1001 0 a0.af.aq.length]), .row g1001 1 a0.af.aq.length 5 (row cB a0.af.aq)] (fun res h => ∃ G1 : Nat, res = .aU [] ∧ h = [.row g1000 2 1 51 (fun _ => [aN G1 0 g1000, .own 1 G1 0 r.af.aq.length]), .row G1 1 r.af.aq.length 5 (row cB r.af.aq)])
inductive cf : (List ae) → (List UInt8) → Int → ((List UInt8)) → Prop
 | mk (FG : av → ae → Int → Option (av)) (Z4 : ∀ a0 a1 a2 r, FG a0 a1 a2 = some r → xS a0 a1 a2 r) (bM : (List ae) → (List UInt8) → Int → Option ((List UInt8))) (om : ∀ a1 hI gq o, bM a1 hI gq = some o → cf a1 hI gq o) (a1 : List ae) (hI : List UInt8) (gq : Int) (o : (List UInt8)) (h : (
 (if gq < (a1.length : Int) then
 idx a1 gq >>= fun oZ =>
 (if gq > 0 then
 ao (av.mk (aF.mk () hI)) ([[44, 32]] : List ar) >>= fun zf =>
 FG zf oZ 1 >>= fun zg =>
 bM a1 zg.af.aq (aT (gq + 1))
 else
 FG (av.mk (aF.mk () hI)) oZ 1 >>= fun zh =>
 bM a1 zh.af.aq (aT (gq + 1)))
 else
 some hI)
 ) = some o) : cf a1 hI gq o
theorem nK {motive : (List ae) → (List UInt8) → Int → ((List UInt8)) → Prop} (step : ∀ (FG : av → ae → Int → Option (av)) (Z4 : ∀ a0 a1 a2 r, FG a0 a1 a2 = some r → xS a0 a1 a2 r) (bM : (List ae) → (List UInt8) → Int → Option ((List UInt8))) (om : ∀ a1 hI gq o, bM a1 hI gq = some o → cf a1 hI gq o) (a1 : List ae) (hI : List UInt8) (gq : Int) (o : (List UInt8)) (h : (
 (if gq < (a1.length : Int) then
 idx a1 gq >>= fun oZ =>
 (if gq > 0 then
 ao (av.mk (aF.mk () hI)) ([[44, 32]] : List ar) >>= fun zf =>
 FG zf oZ 1 >>= fun zg =>
 bM a1 zg.af.aq (aT (gq + 1))
 else
 FG (av.mk (aF.mk () hI)) oZ 1 >>= fun zh =>
 bM a1 zh.af.aq (aT (gq + 1)))
 else
 some hI)
 ) = some o) (ih : ∀ a1 hI gq o, bM a1 hI gq = some o → motive a1 hI gq o), motive a1 hI gq o) : ∀ a1 hI gq o, cf a1 hI gq o → motive a1 hI gq o :=
 fun a1 hI gq o h => cf.rec (motive := fun a1 hI gq o _ => motive a1 hI gq o) step h
inductive cg : ae → (List UInt8) → Int → ((List UInt8)) → Prop
 | mk (FG : av → ae → Int → Option (av)) (Z4 : ∀ a0 a1 a2 r, FG a0 a1 a2 = some r → xS a0 a1 a2 r) (LY : av → ae → Int → ar → Int → Option (av)) (ajj : ∀ a0 a1 a2 a3 a4 r, LY a0 a1 a2 a3 a4 = some r → zy a0 a1 a2 a3 a4 r) (bN : ae → (List UInt8) → Int → Option ((List UInt8))) (oq : ∀ a1 hJ gl o, bN a1 hJ gl = some o → cg a1 hJ gl o) (a1 : ae) (hJ : List UInt8) (gl : Int) (o : (List UInt8)) (h : (
 (if gl < (a1.ah.length : Int) then
 idx a1.ah gl >>= fun kZ =>
 (
 (if gl > 0 then
 ao (av.mk (aF.mk () hJ)) ([[44, 32]] : List ar) >>= fun tZ =>
 some tZ.af.aq
 else
 some hJ)
 : Option ((List UInt8))) >>= fun rU =>
 (if (kZ.ah.length : Int) = 2 then
 LY (av.mk (aF.mk () rU)) kZ 1 [32, 61, 62, 32] 1 >>= fun zi =>
 bN a1 zi.af.aq (aT (gl + 1))
 else
 idx kZ.ah 0 >>= fun C0 =>
 FG (av.mk (aF.mk () rU)) C0 1 >>= fun zj =>
 bN a1 zj.af.aq (aT (gl + 1)))
 else
 some hJ)
 ) = some o) : cg a1 hJ gl o
theorem nL {motive : ae → (List UInt8) → Int → ((List UInt8)) → Prop} (step : ∀ (FG : av → ae → Int → Option (av)) (Z4 : ∀ a0 a1 a2 r, FG a0 a1 a2 = some r → xS a0 a1 a2 r) (LY : av → ae → Int → ar → Int → Option (av)) (ajj : ∀ a0 a1 a2 a3 a4 r, LY a0 a1 a2 a3 a4 = some r → zy a0 a1 a2 a3 a4 r) (bN : ae → (List UInt8) → Int → Option ((List UInt8))) (oq : ∀ a1 hJ gl o, bN a1 hJ gl = some o → cg a1 hJ gl o) (a1 : ae) (hJ : List UInt8) (gl : Int) (o : (List UInt8)) (h : (
 (if gl < (a1.ah.length : Int) then
 idx a1.ah gl >>= fun kZ =>
 (
 (if gl > 0 then
 ao (av.mk (aF.mk () hJ)) ([[44, 32]] : List ar) >>= fun tZ =>
 some tZ.af.aq
 else
 some hJ)
 : Option ((List UInt8))) >>= fun rU =>
 (if (kZ.ah.length : Int) = 2 then
 LY (av.mk (aF.mk () rU)) kZ 1 [32, 61, 62, 32] 1 >>= fun zi =>
 bN a1 zi.af.aq (aT (gl + 1))
 else
 idx kZ.ah 0 >>= fun C0 =>
 FG (av.mk (aF.mk () rU)) C0 1 >>= fun zj =>
 bN a1 zj.af.aq (aT (gl + 1)))
 else
 some hJ)
 ) = some o) (ih : ∀ a1 hJ gl o, bN a1 hJ gl = some o → motive a1 hJ gl o), motive a1 hJ gl o) : ∀ a1 hJ gl o, cg a1 hJ gl o → motive a1 hJ gl o :=
 fun a1 hJ gl o h => cg.rec (motive := fun a1 hJ gl o _ => motive a1 hJ gl o) step h
inductive bV : ae → (List UInt8) → Int → ((List UInt8)) → Prop
 | mk (G49 : av → ae → Option (av)) (ape : ∀ a0 a1 r, G49 a0 a1 = some r → Eo a0 a1 r) (cx : ae → (List UInt8) → Int → Option ((List UInt8))) (nM : ∀ a1 iX iH o, cx a1 iX iH = some o → bV a1 iX iH o) (a1 : ae) (iX : List UInt8) (iH : Int) (o : (List UInt8)) (h : (
 (if iH < (a1.ah.length : Int) then
 idx a1.ah iH >>= fun sY =>
 G49 (av.mk (aF.mk () iX)) sY >>= fun zk =>
 ao zk ([[32]] : List ar) >>= fun zl =>
 cx a1 zl.af.aq (aT (iH + 1))
 else
 some iX)
 ) = some o) : bV a1 iX iH o
theorem mX {motive : ae → (List UInt8) → Int → ((List UInt8)) → Prop} (step : ∀ (G49 : av → ae → Option (av)) (ape : ∀ a0 a1 r, G49 a0 a1 = some r → Eo a0 a1 r) (cx : ae → (List UInt8) → Int → Option ((List UInt8))) (nM : ∀ a1 iX iH o, cx a1 iX iH = some o → bV a1 iX iH o) (a1 : ae) (iX : List UInt8) (iH : Int) (o : (List UInt8)) (h : (
 (if iH < (a1.ah.length : Int) then
 idx a1.ah iH >>= fun sY =>
 G49 (av.mk (aF.mk () iX)) sY >>= fun zk =>
 ao zk ([[32]] : List ar) >>= fun zl =>
 cx a1 zl.af.aq (aT (iH + 1))
 else
 some iX)
 ) = some o) (ih : ∀ a1 iX iH o, cx a1 iX iH = some o → motive a1 iX iH o), motive a1 iX iH o) : ∀ a1 iX iH o, bV a1 iX iH o → motive a1 iX iH o :=
 fun a1 iX iH o h => bV.rec (motive := fun a1 iX iH o _ => motive a1 iX iH o) step h
inductive cr : (List ae) → (List UInt8) → Int → (av) → Prop
 | mk (Z5 : av → ae → Option (av)) (apf : ∀ a0 a1 r, Z5 a0 a1 = some r → Em a0 a1 r) (bS : (List ae) → (List UInt8) → Int → Option (av)) (o9 : ∀ fx hU gO o, bS fx hU gO = some o → cr fx hU gO o) (fx : List ae) (hU : List UInt8) (gO : Int) (o : av) (h : (
 (if gO < (fx.length : Int) then
 idx fx gO >>= fun jl =>
 (if jl.ai = 44 then
 idx jl.ah 0 >>= fun sZ =>
 ao (av.mk (aF.mk () hU)) ([[32, 99, 97, 116, 99, 104, 32, 40], jl.aj, [32, 36], sZ.aj, [41, 32]] : List ar) >>= fun zm =>
 idx jl.ah 1 >>= fun C1 =>
 Z5 zm C1 >>= fun zn =>
 bS fx zn.af.aq (aT (gO + 1))
 else
 ao (av.mk (aF.mk () hU)) ([[32, 102, 105, 110, 97, 108, 108, 121, 32]] : List ar) >>= fun zo =>
 idx jl.ah 0 >>= fun C2 =>
 Z5 zo C2 >>= fun zp =>
 bS fx zp.af.aq (aT (gO + 1)))
 else
 some (av.mk (aF.mk () hU)))
 ) = some o) : cr fx hU gO o
theorem ot {motive : (List ae) → (List UInt8) → Int → (av) → Prop} (step : ∀ (Z5 : av → ae → Option (av)) (apf : ∀ a0 a1 r, Z5 a0 a1 = some r → Em a0 a1 r) (bS : (List ae) → (List UInt8) → Int → Option (av)) (o9 : ∀ fx hU gO o, bS fx hU gO = some o → cr fx hU gO o) (fx : List ae) (hU : List UInt8) (gO : Int) (o : av) (h : (
 (if gO < (fx.length : Int) then
 idx fx gO >>= fun jl =>
 (if jl.ai = 44 then
 idx jl.ah 0 >>= fun sZ =>
 ao (av.mk (aF.mk () hU)) ([[32, 99, 97, 116, 99, 104, 32, 40], jl.aj, [32, 36], sZ.aj, [41, 32]] : List ar) >>= fun zm =>
 idx jl.ah 1 >>= fun C1 =>
 Z5 zm C1 >>= fun zn =>
 bS fx zn.af.aq (aT (gO + 1))
 else
 ao (av.mk (aF.mk () hU)) ([[32, 102, 105, 110, 97, 108, 108, 121, 32]] : List ar) >>= fun zo =>
 idx jl.ah 0 >>= fun C2 =>
 Z5 zo C2 >>= fun zp =>
 bS fx zp.af.aq (aT (gO + 1)))
 else
 some (av.mk (aF.mk () hU)))
 ) = some o) (ih : ∀ fx hU gO o, bS fx hU gO = some o → motive fx hU gO o), motive fx hU gO o) : ∀ fx hU gO o, cr fx hU gO o → motive fx hU gO o :=
 fun fx hU gO o h => cr.rec (motive := fun fx hU gO o _ => motive fx hU gO o) step h
inductive bW : (List ae) → (List UInt8) → Int → ((List UInt8)) → Prop
 | mk (G95 : av → ar → ae → Option (av)) (apg : ∀ a0 a1 a2 r, G95 a0 a1 a2 = some r → En a0 a1 a2 r) (G98 : av → ae → Option (av)) (aph : ∀ a0 a1 r, G98 a0 a1 = some r → Ep a0 a1 r) (ba : (List ae) → (List UInt8) → Int → Option ((List UInt8))) (nN : ∀ dW gD fW o, ba dW gD fW = some o → bW dW gD fW o) (dW : List ae) (gD : List UInt8) (fW : Int) (o : (List UInt8)) (h : (
 (if fW < (dW.length : Int) then
 idx dW fW >>= fun fy =>
 (if fy.ai = 53 then
 ao (av.mk (aF.mk () gD)) ([[117, 115, 101, 32], fy.aj, [59, 32]] : List ar) >>= fun zq =>
 ba dW zq.af.aq (aT (fW + 1))
 else
 (
 (if (bits .and .i64 fy.aD 1) = 0 then
 some gD
 else
 ao (av.mk (aF.mk () gD)) ([[112, 114, 105, 118, 97, 116, 101, 32]] : List ar) >>= fun zr =>
 some zr.af.aq)
 : Option ((List UInt8))) >>= fun rV =>
 (
 (if (bits .and .i64 fy.aD 2) = 0 then
 some rV
 else
 ao (av.mk (aF.mk () rV)) ([[115, 116, 97, 116, 105, 99, 32]] : List ar) >>= fun zs =>
 some zs.af.aq)
 : Option ((List UInt8))) >>= fun rW =>
 (if fy.ai = 54 then
 aH [36] fy.aj >>= fun C3 =>
 aH C3 [32, 61, 32] >>= fun C4 =>
 idx fy.ah 0 >>= fun C5 =>
 G95 (av.mk (aF.mk () rW)) C4 C5 >>= fun zt =>
 ao zt ([[32]] : List ar) >>= fun zu =>
 ba dW zu.af.aq (aT (fW + 1))
 else
 G98 (av.mk (aF.mk () rW)) fy >>= fun zw =>
 ao zw ([[32]] : List ar) >>= fun zx =>
 ba dW zx.af.aq (aT (fW + 1))))
 else
 some gD)
 ) = some o) : bW dW gD fW o
theorem mY {motive : (List ae) → (List UInt8) → Int → ((List UInt8)) → Prop} (step : ∀ (G95 : av → ar → ae → Option (av)) (apg : ∀ a0 a1 a2 r, G95 a0 a1 a2 = some r → En a0 a1 a2 r) (G98 : av → ae → Option (av)) (aph : ∀ a0 a1 r, G98 a0 a1 = some r → Ep a0 a1 r) (ba : (List ae) → (List UInt8) → Int → Option ((List UInt8))) (nN : ∀ dW gD fW o, ba dW gD fW = some o → bW dW gD fW o) (dW : List ae) (gD : List UInt8) (fW : Int) (o : (List UInt8)) (h : (
 (if fW < (dW.length : Int) then
 idx dW fW >>= fun fy =>
 (if fy.ai = 53 then
 ao (av.mk (aF.mk () gD)) ([[117, 115, 101, 32], fy.aj, [59, 32]] : List ar) >>= fun zq =>
 ba dW zq.af.aq (aT (fW + 1))
 else
 (
 (if (bits .and .i64 fy.aD 1) = 0 then
 some gD
 else
 ao (av.mk (aF.mk () gD)) ([[112, 114, 105, 118, 97, 116, 101, 32]] : List ar) >>= fun zr =>
 some zr.af.aq)
 : Option ((List UInt8))) >>= fun rV =>
 (
 (if (bits .and .i64 fy.aD 2) = 0 then
 some rV
 else
 ao (av.mk (aF.mk () rV)) ([[115, 116, 97, 116, 105, 99, 32]] : List ar) >>= fun zs =>
 some zs.af.aq)
 : Option ((List UInt8))) >>= fun rW =>
 (if fy.ai = 54 then
 aH [36] fy.aj >>= fun C3 =>
 aH C3 [32, 61, 32] >>= fun C4 =>
 idx fy.ah 0 >>= fun C5 =>
 G95 (av.mk (aF.mk () rW)) C4 C5 >>= fun zt =>
 ao zt ([[32]] : List ar) >>= fun zu =>
 ba dW zu.af.aq (aT (fW + 1))
 else
 G98 (av.mk (aF.mk () rW)) fy >>= fun zw =>
 ao zw ([[32]] : List ar) >>= fun zx =>
 ba dW zx.af.aq (aT (fW + 1))))
 else
 some gD)
 ) = some o) (ih : ∀ dW gD fW o, ba dW gD fW = some o → motive dW gD fW o), motive dW gD fW o) : ∀ dW gD fW o, bW dW gD fW o → motive dW gD fW o :=
 fun dW gD fW o h => bW.rec (motive := fun dW gD fW o _ => motive dW gD fW o) step h
theorem qE : (∀ a0 a1 a2 r, aJ a0 a1 a2 = some r → xS a0 a1 a2 r) ∧ (∀ a0 a1 r, fM a0 a1 = some r → T6 a0 a1 r) ∧ (∀ a0 a1 r, fg a0 a1 = some r → LX a0 a1 r) ∧ (∀ a0 a1 r, aX a0 a1 = some r → Em a0 a1 r) ∧ (∀ a1 iX iH o, di a1 iX iH = some o → bV a1 iX iH o) ∧ (∀ a0 a1 r, gY a0 a1 = some r → Eo a0 a1 r) ∧ (∀ a0 a1 a2 r, kA a0 a1 a2 = some r → T8 a0 a1 a2 r) ∧ (∀ dW gD fW o, eD dW gD fW = some o → bW dW gD fW o) ∧ (∀ a0 a1 r, jk a0 a1 = some r → Ep a0 a1 r) ∧ (∀ a0 a1 a2 r, ck a0 a1 a2 = some r → En a0 a1 a2 r) ∧ (∀ a0 a1 r, dV a0 a1 = some r → T7 a0 a1 r) ∧ (∀ fx hU gO o, bJ fx hU gO = some o → cr fx hU gO o) ∧ (∀ a0 a1 r, dn a0 a1 = some r → LV a0 a1 r) ∧ (∀ a1 hI gq o, cJ a1 hI gq = some o → cf a1 hI gq o) ∧ (∀ a0 a1 a2 a3 a4 r, bA a0 a1 a2 a3 a4 = some r → zy a0 a1 a2 a3 a4 r) ∧ (∀ a0 a1 r, jz a0 a1 = some r → LW a0 a1 r) ∧ (∀ a1 hJ gl o, cK a1 hJ gl = some o → cg a1 hJ gl o) := by
 refine aJ.mutual_partial_correctness xS T6 LX Em bV Eo T8 bW Ep En T7 cr LV cf zy LW cg ?_ ?_ ?_ ?_ ?_ ?_ ?_ ?_ ?_ ?_ ?_ ?_ ?_ ?_ ?_ ?_ ?_
 intro _ T9 a0 a1 a2 r h g1000 g1001
 refine gd Tryz.func46 ?_
 refine .d (.d (.d ⟨rfl, _, rfl, (bk h fun v1 lx h => (aS (zA lx) (sD h (fun ow h => ?_) (fun ow h => ?_))))⟩))
 refine .d ⟨row cS ([[40]] : List ar), aC cS ([[40]] : List ar) rfl (aB rfl), (bk h fun v4 tV h => (cm (aw (g1000 := g1000) (g1001 := g1001) (g1002 := 0) tV) [0, 1, 3] ⟨cw, ov, ov, ⟨⟩⟩ ?_))⟩
 rintro _ _ ⟨g6, g7, rfl, rfl⟩
 refine ⟨.aU [], [.row g1000 2 1 51 (fun _ => [aN g6 0 g1000, .own 1 g6 0 v4.af.aq.length]), .row g6 1 v4.af.aq.length 5 (row cB v4.af.aq), .row 0 4 1 29 (fun _ => a1.lit), .row g7 1 ([[40]] : List ar).length 9 (row cS ([[40]] : List ar))], rfl, atu, (.d ⟨rfl, _, rfl, (bk h fun v8 hv9 h => (cH (T9 _ _ _ hv9 _ _) [0, 1] ⟨cw, ov, ⟨⟩⟩ (fun g10 => .aU []) (fun g10 => [.row g1000 2 1 51 (fun _ => [aN g10 0 g1000, .own 1 g10 0 v8.af.aq.length]), .row g10 1 v8.af.aq.length 5 (row cB v8.af.aq), .row 0 4 1 29 (fun _ => a1.lit), .row g7 1 ([[40]] : List ar).length 9 (row cS ([[40]] : List ar))]) fun g10 => (.d ⟨row cS ([[41]] : List ar), aC cS ([[41]] : List ar) rfl (aB rfl), (bk h fun v11 CO h => (cm (aw (g1000 := g1000) (g1001 := g10) (g1002 := 0) CO) [0, 1, 4] ⟨cw, ov, ov, ⟨⟩⟩ ?_))⟩)))⟩)⟩
 rintro _ _ ⟨g13, g14, rfl, rfl⟩
 refine ⟨.aU [], [.row g1000 2 1 51 (fun _ => [aN g13 0 g1000, .own 1 g13 0 v11.af.aq.length]), .row g13 1 v11.af.aq.length 5 (row cB v11.af.aq), .row 0 4 1 29 (fun _ => a1.lit), .row g7 1 ([[40]] : List ar).length 9 (row cS ([[40]] : List ar)), .row g14 1 ([[41]] : List ar).length 9 (row cS ([[41]] : List ar))], rfl, atu, ?_⟩
 obtain rfl := si h
 exact en [0, 1] ⟨g13, rfl, rfl⟩ (.bq ⟨⟩) ⟨(ob rfl ⟨.aN, .o, ⟨⟩⟩), od, ⟨⟩⟩
 refine ⟨rfl, _, rfl, (bk h fun wG B6 h => (cH (T9 _ _ _ B6 _ _) [0, 1] ⟨cw, ov, ⟨⟩⟩ (fun g17 => .aU []) (fun g17 => [.row g1000 2 1 51 (fun _ => [aN g17 0 g1000, .own 1 g17 0 wG.af.aq.length]), .row g17 1 wG.af.aq.length 5 (row cB wG.af.aq), .row 0 4 1 29 (fun _ => a1.lit)]) fun g17 => ?_))⟩
 obtain rfl := si h
 exact en [0, 1] ⟨g17, rfl, rfl⟩ (.bq ⟨⟩) ⟨(ob rfl ⟨.aN, .o, ⟨⟩⟩), od, ⟨⟩⟩
 intro _ _ _ _ _ km Z6 vL qF Z7 a0 a1 r h g1000 g1001
 refine gd Tryz.func93 ?_
 refine .d (.d ⟨rfl, ⟨rfl, _, rfl, (.d (sE h (fun wR h => ?_) (fun wR h => ?_)))⟩⟩)
 refine ⟨rfl, ⟨rfl, _, rfl, (bk h fun yD IQ h => (aS (uZ IQ) ⟨row cS ([yD] : List ar), aC cS ([yD] : List ar) rfl (aB rfl), (bk h fun v21 Z8 h => (cm (aw (g1000 := g1000) (g1001 := g1001) (g1002 := 0) Z8) [0, 1, 3] ⟨cw, ov, ov, ⟨⟩⟩ ?_))⟩))⟩⟩
 rintro _ _ ⟨g23, g24, rfl, rfl⟩
 refine ⟨.aU [], [.row g1000 2 1 51 (fun _ => [aN g23 0 g1000, .own 1 g23 0 v21.af.aq.length]), .row g23 1 v21.af.aq.length 5 (row cB v21.af.aq), .row 0 4 1 29 (fun _ => a1.lit), .row g24 1 ([yD] : List ar).length 9 (row cS ([yD] : List ar))], rfl, atu, ?_⟩
 obtain rfl := si h
 exact en [0, 1] ⟨g23, rfl, rfl⟩ (.bq ⟨⟩) ⟨(ob rfl ⟨.aN, .o, ⟨⟩⟩), od, ⟨⟩⟩
 refine .d (sE h (fun Fx h => ?_) (fun Fx h => ?_))
 refine ⟨rfl, ⟨rfl, _, rfl, (bk h fun G9 ZF h => (aS (pa ZF) ⟨row cS ([G9] : List ar), aC cS ([G9] : List ar) rfl (aB rfl), (bk h fun v28 api h => (cm (aw (g1000 := g1000) (g1001 := g1001) (g1002 := 0) api) [0, 1, 3] ⟨cw, ov, ov, ⟨⟩⟩ ?_))⟩))⟩⟩
 rintro _ _ ⟨g30, g31, rfl, rfl⟩
 refine ⟨.aU [], [.row g1000 2 1 51 (fun _ => [aN g30 0 g1000, .own 1 g30 0 v28.af.aq.length]), .row g30 1 v28.af.aq.length 5 (row cB v28.af.aq), .row 0 4 1 29 (fun _ => a1.lit), .row g31 1 ([G9] : List ar).length 9 (row cS ([G9] : List ar))], rfl, atu, ?_⟩
 obtain rfl := si h
 exact en [0, 1] ⟨g30, rfl, rfl⟩ (.bq ⟨⟩) ⟨(ob rfl ⟨.aN, .o, ⟨⟩⟩), od, ⟨⟩⟩
 refine .d (sE h (fun Hv h => ?_) (fun Hv h => ?_))
 refine ⟨row cS ([[110, 117, 108, 108], [102, 97, 108, 115, 101], [116, 114, 117, 101]] : List ar), aC cS ([[110, 117, 108, 108], [102, 97, 108, 115, 101], [116, 114, 117, 101]] : List ar) rfl (aB rfl), ⟨rfl, ⟨rfl, _, rfl, (bk h fun Nk Ix h => ⟨rfl, aA Ix, _, ard _, ⟨rfl, _, ((ax Ix).trans rfl), ⟨row cS ([Nk] : List ar), aC cS ([Nk] : List ar) rfl (aB rfl), (bk h fun zU Hx h => (cm (aw (g1000 := g1000) (g1001 := g1001) (g1002 := 0) Hx) [0, 1, 4] ⟨cw, ov, ov, ⟨⟩⟩ ?_))⟩⟩⟩)⟩⟩⟩
 rintro _ _ ⟨O9, g38, rfl, rfl⟩
 refine ⟨.aU [], [.row g1000 2 1 51 (fun _ => [aN O9 0 g1000, .own 1 O9 0 zU.af.aq.length]), .row O9 1 zU.af.aq.length 5 (row cB zU.af.aq), .row 0 4 1 29 (fun _ => a1.lit), .row 0 1 ([[110, 117, 108, 108], [102, 97, 108, 115, 101], [116, 114, 117, 101]] : List ar).length 9 (row cS ([[110, 117, 108, 108], [102, 97, 108, 115, 101], [116, 114, 117, 101]] : List ar)), .row g38 1 ([Nk] : List ar).length 9 (row cS ([Nk] : List ar))], rfl, atu, ?_⟩
 obtain rfl := si h
 exact en [0, 1] ⟨O9, rfl, rfl⟩ (.bq ⟨⟩) ⟨(ob rfl ⟨.aN, .o, ⟨⟩⟩), od, ⟨⟩⟩
 refine .d (sE h (fun Jz h => ?_) (fun Jz h => ?_))
 refine ⟨rfl, ⟨rfl, _, rfl, ⟨row cS ([[36], a1.aj] : List ar), aC cS ([[36], a1.aj] : List ar) rfl (aB rfl), (bk h fun v40 JA h => (cm (aw (g1000 := g1000) (g1001 := g1001) (g1002 := 0) JA) [0, 1, 3] ⟨cw, ov, ov, ⟨⟩⟩ ?_))⟩⟩⟩
 rintro _ _ ⟨g42, g43, rfl, rfl⟩
 refine ⟨.aU [], [.row g1000 2 1 51 (fun _ => [aN g42 0 g1000, .own 1 g42 0 v40.af.aq.length]), .row g42 1 v40.af.aq.length 5 (row cB v40.af.aq), .row 0 4 1 29 (fun _ => a1.lit), .row g43 1 ([[36], a1.aj] : List ar).length 9 (row cS ([[36], a1.aj] : List ar))], rfl, atu, ?_⟩
 obtain rfl := si h
 exact en [0, 1] ⟨g42, rfl, rfl⟩ (.bq ⟨⟩) ⟨(ob rfl ⟨.aN, .o, ⟨⟩⟩), od, ⟨⟩⟩
 refine .d (sE h (fun apj h => ?_) (fun apj h => ?_))
 refine ⟨rfl, _, rfl, (bk h fun KT ZH h => (cH (Z7 _ _ _ ZH _ _) [0, 1] ⟨cw, ov, ⟨⟩⟩ (fun KU => .aU []) (fun KU => [.row g1000 2 1 51 (fun _ => [aN KU 0 g1000, .own 1 KU 0 KT.af.aq.length]), .row KU 1 KT.af.aq.length 5 (row cB KT.af.aq), .row 0 4 1 29 (fun _ => a1.lit)]) fun KU => ?_))⟩
 obtain rfl := si h
 exact en [0, 1] ⟨KU, rfl, rfl⟩ (.bq ⟨⟩) ⟨(ob rfl ⟨.aN, .o, ⟨⟩⟩), od, ⟨⟩⟩
 refine .d (sE h (fun Yl h => ?_) (fun Yl h => ?_))
 refine .d ⟨rfl, ⟨rfl, _, rfl, (bk h fun x49 IU h => ⟨aA IU, _, (ax IU).trans (ae.au x49), (bk h fun v51 apk h => (cH (km _ _ _ _ apk _ _) [0, 1] ⟨cw, ov, ⟨⟩⟩ (fun g53 => .aU []) (fun g53 => [.row g1000 2 1 51 (fun _ => [aN g53 0 g1000, .own 1 g53 0 v51.af.aq.length]), .row g53 1 v51.af.aq.length 5 (row cB v51.af.aq), .row 0 4 1 29 (fun _ => a1.lit)]) fun g53 => (.d ⟨row cS ([[91]] : List ar), aC cS ([[91]] : List ar) rfl (aB rfl), (bk h fun T3 Z9 h => (cm (aw (g1000 := g1000) (g1001 := g53) (g1002 := 0) Z9) [0, 1, 3] ⟨cw, ov, ov, ⟨⟩⟩ ?_))⟩)))⟩)⟩⟩
 rintro _ _ ⟨g56, g57, rfl, rfl⟩
 refine ⟨.aU [], [.row g1000 2 1 51 (fun _ => [aN g56 0 g1000, .own 1 g56 0 T3.af.aq.length]), .row g56 1 T3.af.aq.length 5 (row cB T3.af.aq), .row 0 4 1 29 (fun _ => a1.lit), .row g57 1 ([[91]] : List ar).length 9 (row cS ([[91]] : List ar))], rfl, atu, (.d ⟨rfl, ⟨rfl, _, rfl, (bk h fun x58 ajk h => ⟨aA ajk, _, (ax ajk).trans (ae.au x58), (bk h fun T4 aaa h => (cH (km _ _ _ _ aaa _ _) [0, 1] ⟨cw, ov, ⟨⟩⟩ (fun g62 => .aU []) (fun g62 => [.row g1000 2 1 51 (fun _ => [aN g62 0 g1000, .own 1 g62 0 T4.af.aq.length]), .row g62 1 T4.af.aq.length 5 (row cB T4.af.aq), .row 0 4 1 29 (fun _ => a1.lit), .row g57 1 ([[91]] : List ar).length 9 (row cS ([[91]] : List ar))]) fun g62 => ⟨row cS ([[93]] : List ar), aC cS ([[93]] : List ar) rfl (aB rfl), (bk h fun Jn JB h => (cm (aw (g1000 := g1000) (g1001 := g62) (g1002 := 0) JB) [0, 1, 4] ⟨cw, ov, ov, ⟨⟩⟩ ?_))⟩))⟩)⟩⟩)⟩
 rintro _ _ ⟨g65, g66, rfl, rfl⟩
 refine ⟨.aU [], [.row g1000 2 1 51 (fun _ => [aN g65 0 g1000, .own 1 g65 0 Jn.af.aq.length]), .row g65 1 Jn.af.aq.length 5 (row cB Jn.af.aq), .row 0 4 1 29 (fun _ => a1.lit), .row g57 1 ([[91]] : List ar).length 9 (row cS ([[91]] : List ar)), .row g66 1 ([[93]] : List ar).length 9 (row cS ([[93]] : List ar))], rfl, atu, ?_⟩
 obtain rfl := si h
 exact en [0, 1] ⟨g65, rfl, rfl⟩ (.bq ⟨⟩) ⟨(ob rfl ⟨.aN, .o, ⟨⟩⟩), od, ⟨⟩⟩
 refine .d (sE h (fun apl h => ?_) (fun apl h => ?_))
 refine .d ⟨rfl, ⟨rfl, _, rfl, (bk h fun x68 ajl h => ⟨aA ajl, _, (ax ajl).trans (ae.au x68), (bk h fun v70 apm h => (cH (km _ _ _ _ apm _ _) [0, 1] ⟨cw, ov, ⟨⟩⟩ (fun g72 => .aU []) (fun g72 => [.row g1000 2 1 51 (fun _ => [aN g72 0 g1000, .own 1 g72 0 v70.af.aq.length]), .row g72 1 v70.af.aq.length 5 (row cB v70.af.aq), .row 0 4 1 29 (fun _ => a1.lit)]) fun g72 => ⟨rfl, ⟨rfl, _, rfl, ⟨row cS ([[45, 62], a1.aj] : List ar), aC cS ([[45, 62], a1.aj] : List ar) rfl (aB rfl), (bk h fun v73 apn h => (cm (aw (g1000 := g1000) (g1001 := g72) (g1002 := 0) apn) [0, 1, 3] ⟨cw, ov, ov, ⟨⟩⟩ ?_))⟩⟩⟩))⟩)⟩⟩
 rintro _ _ ⟨g75, g76, rfl, rfl⟩
 refine ⟨.aU [], [.row g1000 2 1 51 (fun _ => [aN g75 0 g1000, .own 1 g75 0 v73.af.aq.length]), .row g75 1 v73.af.aq.length 5 (row cB v73.af.aq), .row 0 4 1 29 (fun _ => a1.lit), .row g76 1 ([[45, 62], a1.aj] : List ar).length 9 (row cS ([[45, 62], a1.aj] : List ar))], rfl, atu, ?_⟩
 obtain rfl := si h
 exact en [0, 1] ⟨g75, rfl, rfl⟩ (.bq ⟨⟩) ⟨(ob rfl ⟨.aN, .o, ⟨⟩⟩), od, ⟨⟩⟩
 refine .d (sE h (fun VU h => ?_) (fun VU h => ?_))
 refine .d ⟨row cS ([[], [33], [45]] : List ar), aC cS ([[], [33], [45]] : List ar) rfl (aB rfl), ⟨rfl, ⟨rfl, _, rfl, (bk h fun T5 ajm h => ⟨rfl, aA ajm, _, ard _, ⟨rfl, _, ((ax ajm).trans rfl), ⟨row cS ([T5] : List ar), aC cS ([T5] : List ar) rfl (aB rfl), (bk h fun v80 apo h => (cm (aw (g1000 := g1000) (g1001 := g1001) (g1002 := 0) apo) [0, 1, 4] ⟨cw, ov, ov, ⟨⟩⟩ ?_))⟩⟩⟩)⟩⟩⟩
 rintro _ _ ⟨g82, g83, rfl, rfl⟩
 refine ⟨.aU [], [.row g1000 2 1 51 (fun _ => [aN g82 0 g1000, .own 1 g82 0 v80.af.aq.length]), .row g82 1 v80.af.aq.length 5 (row cB v80.af.aq), .row 0 4 1 29 (fun _ => a1.lit), .row 0 1 ([[], [33], [45]] : List ar).length 9 (row cS ([[], [33], [45]] : List ar)), .row g83 1 ([T5] : List ar).length 9 (row cS ([T5] : List ar))], rfl, atu, ⟨rfl, ⟨rfl, _, rfl, (bk h fun x84 IV h => ⟨aA IV, _, (ax IV).trans (ae.au x84), (bk h fun v86 apq h => (cH (km _ _ _ _ apq _ _) [0, 1] ⟨cw, ov, ⟨⟩⟩ (fun g88 => .aU []) (fun g88 => [.row g1000 2 1 51 (fun _ => [aN g88 0 g1000, .own 1 g88 0 v86.af.aq.length]), .row g88 1 v86.af.aq.length 5 (row cB v86.af.aq), .row 0 4 1 29 (fun _ => a1.lit), .row 0 1 ([[], [33], [45]] : List ar).length 9 (row cS ([[], [33], [45]] : List ar)), .row g83 1 ([T5] : List ar).length 9 (row cS ([T5] : List ar))]) fun g88 => ?_))⟩)⟩⟩⟩
 obtain rfl := si h
 exact en [0, 1] ⟨g88, rfl, rfl⟩ (.bq ⟨⟩) ⟨(ob rfl ⟨.aN, .o, ⟨⟩⟩), od, ⟨⟩⟩
 refine .d (sE h (fun YU h => ?_) (fun YU h => ?_))
 refine .d ⟨rfl, ⟨rfl, _, rfl, (bk h fun v90 YV h => (aS (rX YV) (.float [(0, true), (1, true), (2, true), (3, true), (4, true), (8, true), (9, true), (5, false), (6, true), (7, true), (10, false)] atD ?_)))⟩⟩
 refine ⟨rfl, _, rfl, ⟨rfl, ⟨rfl, _, rfl, (bk h fun v92 apr h => (aS (xa apr) ⟨rfl, (bk h fun s94 ajn h => ⟨ay ajn, s94, az ajn, (bk h fun s96 IW h => ⟨ay IW, s96, az IW, (bk h fun QZ Yo h => (cH (qF _ _ _ _ _ _ Yo _ _) [0, 1] ⟨cw, ov, ⟨⟩⟩ (fun FH => .aU []) (fun FH => [.row g1000 2 1 51 (fun _ => [aN FH 0 g1000, .own 1 FH 0 QZ.af.aq.length]), .row FH 1 QZ.af.aq.length 5 (row cB QZ.af.aq), .row 0 4 1 29 (fun _ => a1.lit)]) fun FH => ?_))⟩)⟩)⟩))⟩⟩⟩
 obtain rfl := si h
 exact en [0, 1] ⟨FH, rfl, rfl⟩ (.bq ⟨⟩) ⟨(ob rfl ⟨.aN, .o, ⟨⟩⟩), od, ⟨⟩⟩
 refine .d (sE h (fun HJ h => ?_) (fun HJ h => ?_))
 refine ⟨rfl, _, rfl, (bk h fun KX ajo h => (cH (qF _ _ _ _ _ _ ajo _ _) [0, 1] ⟨cw, ov, ⟨⟩⟩ (fun FI => .aU []) (fun FI => [.row g1000 2 1 51 (fun _ => [aN FI 0 g1000, .own 1 FI 0 KX.af.aq.length]), .row FI 1 KX.af.aq.length 5 (row cB KX.af.aq), .row 0 4 1 29 (fun _ => a1.lit)]) fun FI => ?_))⟩
 obtain rfl := si h
 exact en [0, 1] ⟨FI, rfl, rfl⟩ (.bq ⟨⟩) ⟨(ob rfl ⟨.aN, .o, ⟨⟩⟩), od, ⟨⟩⟩
 refine .d (sE h (fun JC h => ?_) (fun JC h => ?_))
 refine ⟨rfl, _, rfl, (bk h fun KY ajp h => (cH (qF _ _ _ _ _ _ ajp _ _) [0, 1] ⟨cw, ov, ⟨⟩⟩ (fun FJ => .aU []) (fun FJ => [.row g1000 2 1 51 (fun _ => [aN FJ 0 g1000, .own 1 FJ 0 KY.af.aq.length]), .row FJ 1 KY.af.aq.length 5 (row cB KY.af.aq), .row 0 4 1 29 (fun _ => a1.lit)]) fun FJ => ?_))⟩
 obtain rfl := si h
 exact en [0, 1] ⟨FJ, rfl, rfl⟩ (.bq ⟨⟩) ⟨(ob rfl ⟨.aN, .o, ⟨⟩⟩), od, ⟨⟩⟩
 refine .d (sE h (fun z8 h => ?_) (fun z8 h => ?_))
 refine ⟨rfl, _, rfl, (bk h fun KZ ajq h => (cH (qF _ _ _ _ _ _ ajq _ _) [0, 1] ⟨cw, ov, ⟨⟩⟩ (fun FK => .aU []) (fun FK => [.row g1000 2 1 51 (fun _ => [aN FK 0 g1000, .own 1 FK 0 KZ.af.aq.length]), .row FK 1 KZ.af.aq.length 5 (row cB KZ.af.aq), .row 0 4 1 29 (fun _ => a1.lit)]) fun FK => ?_))⟩
 obtain rfl := si h
 exact en [0, 1] ⟨FK, rfl, rfl⟩ (.bq ⟨⟩) ⟨(ob rfl ⟨.aN, .o, ⟨⟩⟩), od, ⟨⟩⟩
 refine .d (sE h (fun ajr h => ?_) (fun ajr h => ?_))
 refine .d ⟨rfl, _, rfl, (bk h fun K0 ajs h => (cH (qF _ _ _ _ _ _ ajs _ _) [0, 1] ⟨cw, ov, ⟨⟩⟩ (fun FL => .aU []) (fun FL => [.row g1000 2 1 51 (fun _ => [aN FL 0 g1000, .own 1 FL 0 K0.af.aq.length]), .row FL 1 K0.af.aq.length 5 (row cB K0.af.aq), .row 0 4 1 29 (fun _ => a1.lit)]) fun FL => (.d ⟨row cS ([[32, 58, 32]] : List ar), aC cS ([[32, 58, 32]] : List ar) rfl (aB rfl), (bk h fun v117 ajt h => (cm (aw (g1000 := g1000) (g1001 := FL) (g1002 := 0) ajt) [0, 1, 3] ⟨cw, ov, ov, ⟨⟩⟩ ?_))⟩)))⟩
 rintro _ _ ⟨aab, aju, rfl, rfl⟩
 refine ⟨.aU [], [.row g1000 2 1 51 (fun _ => [aN aab 0 g1000, .own 1 aab 0 v117.af.aq.length]), .row aab 1 v117.af.aq.length 5 (row cB v117.af.aq), .row 0 4 1 29 (fun _ => a1.lit), .row aju 1 ([[32, 58, 32]] : List ar).length 9 (row cS ([[32, 58, 32]] : List ar))], rfl, atu, ⟨rfl, ⟨rfl, _, rfl, (bk h fun ZI Ua h => ⟨aA Ua, _, (ax Ua).trans (ae.au ZI), (bk h fun K1 ajv h => (cH (km _ _ _ _ ajv _ _) [0, 1] ⟨cw, ov, ⟨⟩⟩ (fun FM => .aU []) (fun FM => [.row g1000 2 1 51 (fun _ => [aN FM 0 g1000, .own 1 FM 0 K1.af.aq.length]), .row FM 1 K1.af.aq.length 5 (row cB K1.af.aq), .row 0 4 1 29 (fun _ => a1.lit), .row aju 1 ([[32, 58, 32]] : List ar).length 9 (row cS ([[32, 58, 32]] : List ar))]) fun FM => ?_))⟩)⟩⟩⟩
 obtain rfl := si h
 exact en [0, 1] ⟨FM, rfl, rfl⟩ (.bq ⟨⟩) ⟨(ob rfl ⟨.aN, .o, ⟨⟩⟩), od, ⟨⟩⟩
 refine .d (sE h (fun I1 h => ?_) (fun I1 h => ?_))
 refine ⟨rfl, _, rfl, (bk h fun v127 ajw h => (cH (qF _ _ _ _ _ _ ajw _ _) [0, 1] ⟨cw, ov, ⟨⟩⟩ (fun FN => .aU []) (fun FN => [.row g1000 2 1 51 (fun _ => [aN FN 0 g1000, .own 1 FN 0 v127.af.aq.length]), .row FN 1 v127.af.aq.length 5 (row cB v127.af.aq), .row 0 4 1 29 (fun _ => a1.lit)]) fun FN => ?_))⟩
 obtain rfl := si h
 exact en [0, 1] ⟨FN, rfl, rfl⟩ (.bq ⟨⟩) ⟨(ob rfl ⟨.aN, .o, ⟨⟩⟩), od, ⟨⟩⟩
 refine .d (sE h (fun ajx h => ?_) (fun ajx h => ?_))
 refine ⟨rfl, _, rfl, (bk h fun v131 It h => (cH (qF _ _ _ _ _ _ It _ _) [0, 1] ⟨cw, ov, ⟨⟩⟩ (fun FO => .aU []) (fun FO => [.row g1000 2 1 51 (fun _ => [aN FO 0 g1000, .own 1 FO 0 v131.af.aq.length]), .row FO 1 v131.af.aq.length 5 (row cB v131.af.aq), .row 0 4 1 29 (fun _ => a1.lit)]) fun FO => ?_))⟩
 obtain rfl := si h
 exact en [0, 1] ⟨FO, rfl, rfl⟩ (.bq ⟨⟩) ⟨(ob rfl ⟨.aN, .o, ⟨⟩⟩), od, ⟨⟩⟩
 refine .d (sE h (fun JD h => ?_) (fun JD h => ?_))
 refine .float [(0, true), (1, true), (2, true), (3, true), (4, true), (5, true), (6, true), (7, true), (8, false), (9, false)] atD ?_
 refine ⟨rfl, ⟨rfl, _, rfl, ⟨rfl, ⟨rfl, _, rfl, (bk h fun CP Au h => ⟨aA Au, _, (ax Au).trans (ae.au CP), ⟨row cS ([[36], a1.aj, [32, 61, 32, 38, 36], CP.aj] : List ar), aC cS ([[36], a1.aj, [32, 61, 32, 38, 36], CP.aj] : List ar) rfl (aB rfl), (bk h fun K2 ajy h => (cm (aw (g1000 := g1000) (g1001 := g1001) (g1002 := 0) ajy) [0, 1, 3] ⟨cw, ov, ov, ⟨⟩⟩ ?_))⟩⟩)⟩⟩⟩⟩
 rintro _ _ ⟨Pe, aps, rfl, rfl⟩
 refine ⟨.aU [], [.row g1000 2 1 51 (fun _ => [aN Pe 0 g1000, .own 1 Pe 0 K2.af.aq.length]), .row Pe 1 K2.af.aq.length 5 (row cB K2.af.aq), .row 0 4 1 29 (fun _ => a1.lit), .row aps 1 ([[36], a1.aj, [32, 61, 32, 38, 36], CP.aj] : List ar).length 9 (row cS ([[36], a1.aj, [32, 61, 32, 38, 36], CP.aj] : List ar))], rfl, atu, ?_⟩
 obtain rfl := si h
 exact en [0, 1] ⟨Pe, rfl, rfl⟩ (.bq ⟨⟩) ⟨(ob rfl ⟨.aN, .o, ⟨⟩⟩), od, ⟨⟩⟩
 obtain ⟨apt, ajz, ajA⟩ := bd h
 replace h := ajz
 refine .cut (fun σ η => ∃ K3, K3 = apt ∧ σ = [(0, .aM 0 g1000 0 0), (3, .aM 2 0 0 0), (6, .int .i64 a1.ai), (161, .bool K3)] ∧ η = [.row g1000 2 1 51 (fun _ => [aN g1001 0 g1000, .own 1 g1001 0 a0.af.aq.length]), .row g1001 1 a0.af.aq.length 5 (row cB a0.af.aq), .row 0 4 1 29 (fun _ => a1.lit)]) ?_ ?_
 refine .d (sE h (fun JE h => ?_) (fun JE h => ?_))
 exact ct ⟨_, si h, rfl, rfl⟩ (tk [0, 1, 2] ⟨.p, .p, .i, .b, ⟨⟩⟩ ⟨(ob rfl ⟨.aN, .o, ⟨⟩⟩), od, (cF rfl), ⟨⟩⟩)
 exact ct ⟨_, si h, rfl, rfl⟩ (tk [0, 1, 2] ⟨.p, .p, .i, .b, ⟨⟩⟩ ⟨(ob rfl ⟨.aN, .o, ⟨⟩⟩), od, (cF rfl), ⟨⟩⟩)
 rintro _ _ ⟨K3, rfl, rfl, rfl⟩
 replace h := ajA
 refine sV h (fun Aa h => ?_) (fun Aa h => ?_)
 refine .d ⟨rfl, ⟨rfl, _, rfl, ⟨row cS ([a1.aj] : List ar), aC cS ([a1.aj] : List ar) rfl (aB rfl), (bk h fun AL JF h => (cm (aw (g1000 := g1000) (g1001 := g1001) (g1002 := 0) JF) [0, 1, 3] ⟨cw, ov, ov, ⟨⟩⟩ ?_))⟩⟩⟩
 rintro _ _ ⟨aac, ajB, rfl, rfl⟩
 refine ⟨.aU [], [.row g1000 2 1 51 (fun _ => [aN aac 0 g1000, .own 1 aac 0 AL.af.aq.length]), .row aac 1 AL.af.aq.length 5 (row cB AL.af.aq), .row 0 4 1 29 (fun _ => a1.lit), .row ajB 1 ([a1.aj] : List ar).length 9 (row cS ([a1.aj] : List ar))], rfl, atu, ⟨rfl, ⟨rfl, _, rfl, (bk h fun K4 ajC h => (cH (vL _ _ _ ajC _ _) [0, 1] ⟨cw, ov, ⟨⟩⟩ (fun FP => .aU []) (fun FP => [.row g1000 2 1 51 (fun _ => [aN FP 0 g1000, .own 1 FP 0 K4.af.aq.length]), .row FP 1 K4.af.aq.length 5 (row cB K4.af.aq), .row 0 4 1 29 (fun _ => a1.lit), .row ajB 1 ([a1.aj] : List ar).length 9 (row cS ([a1.aj] : List ar))]) fun FP => ?_))⟩⟩⟩
 obtain rfl := si h
 exact en [0, 1] ⟨FP, rfl, rfl⟩ (.bq ⟨⟩) ⟨(ob rfl ⟨.aN, .o, ⟨⟩⟩), od, ⟨⟩⟩
 refine .d (sE h (fun Ab h => ?_) (fun Ab h => ?_))
 refine .d ⟨rfl, ⟨rfl, _, rfl, ⟨row cS ([[110, 101, 119, 32], a1.aj] : List ar), aC cS ([[110, 101, 119, 32], a1.aj] : List ar) rfl (aB rfl), (bk h fun uS Av h => (cm (aw (g1000 := g1000) (g1001 := g1001) (g1002 := 0) Av) [0, 1, 3] ⟨cw, ov, ov, ⟨⟩⟩ ?_))⟩⟩⟩
 rintro _ _ ⟨aad, ajD, rfl, rfl⟩
 refine ⟨.aU [], [.row g1000 2 1 51 (fun _ => [aN aad 0 g1000, .own 1 aad 0 uS.af.aq.length]), .row aad 1 uS.af.aq.length 5 (row cB uS.af.aq), .row 0 4 1 29 (fun _ => a1.lit), .row ajD 1 ([[110, 101, 119, 32], a1.aj] : List ar).length 9 (row cS ([[110, 101, 119, 32], a1.aj] : List ar))], rfl, atu, ⟨rfl, ⟨rfl, _, rfl, (bk h fun v159 HQ h => (cH (vL _ _ _ HQ _ _) [0, 1] ⟨cw, ov, ⟨⟩⟩ (fun FQ => .aU []) (fun FQ => [.row g1000 2 1 51 (fun _ => [aN FQ 0 g1000, .own 1 FQ 0 v159.af.aq.length]), .row FQ 1 v159.af.aq.length 5 (row cB v159.af.aq), .row 0 4 1 29 (fun _ => a1.lit), .row ajD 1 ([[110, 101, 119, 32], a1.aj] : List ar).length 9 (row cS ([[110, 101, 119, 32], a1.aj] : List ar))]) fun FQ => ?_))⟩⟩⟩
 obtain rfl := si h
 exact en [0, 1] ⟨FQ, rfl, rfl⟩ (.bq ⟨⟩) ⟨(ob rfl ⟨.aN, .o, ⟨⟩⟩), od, ⟨⟩⟩
 refine .d (sE h (fun Ac h => ?_) (fun Ac h => ?_))
 refine .d ⟨rfl, ⟨rfl, _, rfl, (bk h fun ZJ Ub h => ⟨aA Ub, _, (ax Ub).trans (ae.au ZJ), (bk h fun uN Ad h => (cH (km _ _ _ _ Ad _ _) [0, 1] ⟨cw, ov, ⟨⟩⟩ (fun FR => .aU []) (fun FR => [.row g1000 2 1 51 (fun _ => [aN FR 0 g1000, .own 1 FR 0 uN.af.aq.length]), .row FR 1 uN.af.aq.length 5 (row cB uN.af.aq), .row 0 4 1 29 (fun _ => a1.lit)]) fun FR => (.d ⟨rfl, ⟨rfl, _, rfl, ⟨row cS ([[45, 62], a1.aj] : List ar), aC cS ([[45, 62], a1.aj] : List ar) rfl (aB rfl), (bk h fun v168 Ae h => (cm (aw (g1000 := g1000) (g1001 := FR) (g1002 := 0) Ae) [0, 1, 3] ⟨cw, ov, ov, ⟨⟩⟩ ?_))⟩⟩⟩)))⟩)⟩⟩
 rintro _ _ ⟨aae, ajE, rfl, rfl⟩
 refine ⟨.aU [], [.row g1000 2 1 51 (fun _ => [aN aae 0 g1000, .own 1 aae 0 v168.af.aq.length]), .row aae 1 v168.af.aq.length 5 (row cB v168.af.aq), .row 0 4 1 29 (fun _ => a1.lit), .row ajE 1 ([[45, 62], a1.aj] : List ar).length 9 (row cS ([[45, 62], a1.aj] : List ar))], rfl, atu, ⟨rfl, ⟨rfl, _, rfl, (bk h fun Pa LZ h => ⟨trivial, gU LZ, Pa.length, row ae.cells Pa, fK LZ, fL LZ, (bk h fun z6 HV h => (cH (vL _ _ _ HV _ _) [0, 1] ⟨cw, ov, ⟨⟩⟩ (fun FT => .aU []) (fun FT => [.row g1000 2 1 51 (fun _ => [aN FT 0 g1000, .own 1 FT 0 z6.af.aq.length]), .row FT 1 z6.af.aq.length 5 (row cB z6.af.aq), .row 0 4 1 29 (fun _ => a1.lit), .row ajE 1 ([[45, 62], a1.aj] : List ar).length 9 (row cS ([[45, 62], a1.aj] : List ar))]) fun FT => ?_))⟩)⟩⟩⟩
 obtain rfl := si h
 exact en [0, 1] ⟨FT, rfl, rfl⟩ (.bq ⟨⟩) ⟨(ob rfl ⟨.aN, .o, ⟨⟩⟩), od, ⟨⟩⟩
 refine .d (sE h (fun ajF h => ?_) (fun ajF h => ?_))
 refine .d (.d ⟨rfl, ⟨rfl, _, rfl, (bk h fun ZK Uc h => ⟨aA Uc, _, (ax Uc).trans (ae.au ZK), (sE h (fun Af h => ?_) (fun Af h => ?_))⟩)⟩⟩)
 refine ⟨rfl, ⟨rfl, _, rfl, (bk h fun qu AQ h => ⟨aA AQ, _, (ax AQ).trans (ae.au qu), (bk h fun v183 JU h => (cH (km _ _ _ _ JU _ _) [0, 1] ⟨cw, ov, ⟨⟩⟩ (fun L0 => .aU []) (fun L0 => [.row g1000 2 1 51 (fun _ => [aN L0 0 g1000, .own 1 L0 0 v183.af.aq.length]), .row L0 1 v183.af.aq.length 5 (row cB v183.af.aq), .row 0 4 1 29 (fun _ => a1.lit)]) fun L0 => ⟨rfl, ⟨rfl, _, rfl, (bk h fun Pb xw h => ⟨trivial, gU xw, Pb.length, row ae.cells Pb, fK xw, fL xw, (bk h fun K5 ajG h => (cH (vL _ _ _ ajG _ _) [0, 1] ⟨cw, ov, ⟨⟩⟩ (fun FU => .aU []) (fun FU => [.row g1000 2 1 51 (fun _ => [aN FU 0 g1000, .own 1 FU 0 K5.af.aq.length]), .row FU 1 K5.af.aq.length 5 (row cB K5.af.aq), .row 0 4 1 29 (fun _ => a1.lit)]) fun FU => ?_))⟩)⟩⟩))⟩)⟩⟩
 obtain rfl := si h
 exact en [0, 1] ⟨FU, rfl, rfl⟩ (.bq ⟨⟩) ⟨(ob rfl ⟨.aN, .o, ⟨⟩⟩), od, ⟨⟩⟩
 refine ⟨rfl, ⟨rfl, _, rfl, (bk h fun ZL Ud h => ⟨aA Ud, _, (ax Ud).trans (ae.au ZL), (bk h fun v193 ajH h => (cH (km _ _ _ _ ajH _ _) [0, 1] ⟨cw, ov, ⟨⟩⟩ (fun L1 => .aU []) (fun L1 => [.row g1000 2 1 51 (fun _ => [aN L1 0 g1000, .own 1 L1 0 v193.af.aq.length]), .row L1 1 v193.af.aq.length 5 (row cB v193.af.aq), .row 0 4 1 29 (fun _ => a1.lit)]) fun L1 => ⟨rfl, ⟨rfl, _, rfl, (bk h fun Pc L2 h => ⟨trivial, gU L2, Pc.length, row ae.cells Pc, fK L2, fL L2, (bk h fun v198 ajI h => (cH (vL _ _ _ ajI _ _) [0, 1] ⟨cw, ov, ⟨⟩⟩ (fun FV => .aU []) (fun FV => [.row g1000 2 1 51 (fun _ => [aN FV 0 g1000, .own 1 FV 0 v198.af.aq.length]), .row FV 1 v198.af.aq.length 5 (row cB v198.af.aq), .row 0 4 1 29 (fun _ => a1.lit)]) fun FV => ?_))⟩)⟩⟩))⟩)⟩⟩
 obtain rfl := si h
 exact en [0, 1] ⟨FV, rfl, rfl⟩ (.bq ⟨⟩) ⟨(ob rfl ⟨.aN, .o, ⟨⟩⟩), od, ⟨⟩⟩
 refine .d (sE h (fun I7 h => ?_) (fun I7 h => ?_))
 refine ⟨rfl, _, rfl, (bk h fun K6 ajJ h => (cH (Z6 _ _ _ ajJ _ _) [0, 1] ⟨cw, ov, ⟨⟩⟩ (fun FW => .aU []) (fun FW => [.row g1000 2 1 51 (fun _ => [aN FW 0 g1000, .own 1 FW 0 K6.af.aq.length]), .row FW 1 K6.af.aq.length 5 (row cB K6.af.aq), .row 0 4 1 29 (fun _ => a1.lit)]) fun FW => ?_))⟩
 obtain rfl := si h
 exact en [0, 1] ⟨FW, rfl, rfl⟩ (.bq ⟨⟩) ⟨(ob rfl ⟨.aN, .o, ⟨⟩⟩), od, ⟨⟩⟩
 obtain rfl := si h
 exact en [0, 1] ⟨g1001, rfl, rfl⟩ (.bq ⟨⟩) ⟨(ob rfl ⟨.aN, .o, ⟨⟩⟩), od, ⟨⟩⟩
 intro _ pc a0 a1 r h g1000 g1001
 refine gd Tryz.func157 ?_
 refine .d (.d ⟨row cS ([[102, 117, 110, 99, 116, 105, 111, 110, 32]] : List ar), aC cS ([[102, 117, 110, 99, 116, 105, 111, 110, 32]] : List ar) rfl (aB rfl), (bk h fun K9 ajK h => (cm (aw (g1000 := g1000) (g1001 := g1001) (g1002 := 0) ajK) [0, 1, 3] ⟨cw, ov, ov, ⟨⟩⟩ ?_))⟩)
 rintro _ _ ⟨Pf, ajL, rfl, rfl⟩
 refine ⟨.aU [], [.row g1000 2 1 51 (fun _ => [aN Pf 0 g1000, .own 1 Pf 0 K9.af.aq.length]), .row Pf 1 K9.af.aq.length 5 (row cB K9.af.aq), .row 0 4 1 29 (fun _ => a1.lit), .row ajL 1 ([[102, 117, 110, 99, 116, 105, 111, 110, 32]] : List ar).length 9 (row cS ([[102, 117, 110, 99, 116, 105, 111, 110, 32]] : List ar))], rfl, atu, (.d ⟨rfl, ⟨rfl, _, rfl, (bk h fun nz Ay h => (cH (jI (g1000 := g1000) (g1001 := Pf) Ay) [0, 1] ⟨cw, ov, ⟨⟩⟩ (fun xb => .aU []) (fun xb => [.row g1000 2 1 51 (fun _ => [aN xb 0 g1000, .own 1 xb 0 nz.af.aq.length]), .row xb 1 nz.af.aq.length 5 (row cB nz.af.aq), .row 0 4 1 29 (fun _ => a1.lit), .row ajL 1 ([[102, 117, 110, 99, 116, 105, 111, 110, 32]] : List ar).length 9 (row cS ([[102, 117, 110, 99, 116, 105, 111, 110, 32]] : List ar))]) fun xb => ?_))⟩⟩)⟩
 obtain ⟨aaf, ajM, ajN⟩ := bd h
 replace h := ajM
 refine .cut (fun σ η => ∃ CS, ∃ L3 : Nat, CS = aaf ∧ σ = [(0, .aM 0 g1000 0 0), (3, .aM 2 0 0 0)] ∧ η = [.row g1000 2 1 51 (fun _ => [aN L3 0 g1000, .own 1 L3 0 CS.length]), .row L3 1 CS.length 5 (row cB CS), .row 0 4 1 29 (fun _ => a1.lit)]) ?_ ?_
 refine .d ⟨rfl, ⟨rfl, _, rfl, ?_⟩⟩
 refine le (bG.partial_correctness a1 nz (motive := fun Fy AN => aaf = AN → aG _ _ [(0, .aM 0 g1000 0 0), (3, .aM 2 0 0 0), (14, sl 4 ae.cells a1.ah), (15, .int .i64 (a1.ah.length : Int)), (16, .int .i64 Fy)] [.row g1000 2 1 51 (fun _ => [aN xb 0 g1000, .own 1 xb 0 nz.af.aq.length]), .row xb 1 nz.af.aq.length 5 (row cB nz.af.aq), .row 0 4 1 29 (fun _ => a1.lit)]) ?_ 0 aaf h rfl) (tk [0, 1, 2] ⟨.p, .p, .l, .i, .i, ⟨⟩⟩ ⟨(ob rfl ⟨.aN, .o, ⟨⟩⟩), od, (cF rfl), ⟨⟩⟩)
 intro aqN ajO Fy AN h ajP
 subst ajP
 refine aG.round (.d (.d (sD h (fun ajQ h => ?_) (fun ajQ h => ?_))))
 refine .d (.d (bk h fun zc Ue h => ⟨aA Ue, _, (ax Ue).trans (ae.au zc), ⟨rfl, _, fun _ => [.int .i64 zc.ai, .int .i64 zc.aD, .str zc.aj, sl 4 ae.cells zc.ah], rfl, bX rfl, (.d ⟨rfl, ⟨rfl, _, rfl, (sE h (fun JM h => ?_) (fun JM h => ?_))⟩⟩)⟩⟩))
 refine .d ⟨row cS ([[32, 117, 115, 101, 32]] : List ar), aC cS ([[32, 117, 115, 101, 32]] : List ar) rfl (aB rfl), (bk h fun KV ajR h => (cm (aw (g1000 := g1000) (g1001 := xb) (g1002 := 0) ajR) [0, 1, 4] ⟨cw, ov, ov, ⟨⟩⟩ ?_))⟩
 rintro _ _ ⟨Pg, ajS, rfl, rfl⟩
 exact ⟨.aU [], [.row g1000 2 1 51 (fun _ => [aN Pg 0 g1000, .own 1 Pg 0 KV.af.aq.length]), .row Pg 1 KV.af.aq.length 5 (row cB KV.af.aq), .row 0 4 1 29 (fun _ => a1.lit), .row 0 4 1 29 (fun _ => zc.lit), .row ajS 1 ([[32, 117, 115, 101, 32]] : List ar).length 9 (row cS ([[32, 117, 115, 101, 32]] : List ar))], rfl, atu, (.d ⟨rfl, ⟨rfl, _, rfl, (bk h fun KW ajT h => (cH (jI (g1000 := g1000) (g1001 := Pg) ajT) [0, 1] ⟨cw, ov, ⟨⟩⟩ (fun FX => .aU []) (fun FX => [.row g1000 2 1 51 (fun _ => [aN FX 0 g1000, .own 1 FX 0 KW.af.aq.length]), .row FX 1 KW.af.aq.length 5 (row cB KW.af.aq), .row 0 4 1 29 (fun _ => a1.lit), .row 0 4 1 29 (fun _ => zc.lit), .row ajS 1 ([[32, 117, 115, 101, 32]] : List ar).length 9 (row cS ([[32, 117, 115, 101, 32]] : List ar))]) fun FX => (ct ⟨_, FX, si h, rfl, rfl⟩ (tk [0, 1, 2] ⟨.p, .p, ⟨⟩⟩ ⟨(ob rfl ⟨.aN, .o, ⟨⟩⟩), od, (cF rfl), ⟨⟩⟩))))⟩⟩)⟩
 exact lg (ajO _ _ h rfl) (tk [0, 1, 2] ⟨.p, .p, .l, .i, .i, ⟨⟩⟩ ⟨(ob rfl ⟨.aN, .o, ⟨⟩⟩), od, (cF rfl), ⟨⟩⟩)
 exact ct ⟨_, xb, si h, rfl, rfl⟩ (tk [0, 1, 2] ⟨.p, .p, ⟨⟩⟩ ⟨(ob rfl ⟨.aN, .o, ⟨⟩⟩), od, (cF rfl), ⟨⟩⟩)
 rintro _ _ ⟨CS, L3, rfl, rfl, rfl⟩
 replace h := ajN
 refine .d ⟨row cS ([[32]] : List ar), aC cS ([[32]] : List ar) rfl (aB rfl), (bk h fun La ajU h => (cm (aw (g1000 := g1000) (g1001 := L3) (g1002 := 0) ajU) [0, 1, 3] ⟨cw, ov, ov, ⟨⟩⟩ ?_))⟩
 rintro _ _ ⟨aag, ajV, rfl, rfl⟩
 refine ⟨.aU [], [.row g1000 2 1 51 (fun _ => [aN aag 0 g1000, .own 1 aag 0 La.af.aq.length]), .row aag 1 La.af.aq.length 5 (row cB La.af.aq), .row 0 4 1 29 (fun _ => a1.lit), .row ajV 1 ([[32]] : List ar).length 9 (row cS ([[32]] : List ar))], rfl, atu, ⟨rfl, ⟨rfl, _, rfl, ⟨rfl, ⟨rfl, _, rfl, (bk h fun ZO Uf h => ⟨aA Uf, _, (ax Uf).trans (ae.au ZO), (bk h fun Lb ajW h => (cH (pc _ _ _ ajW _ _) [0, 1] ⟨cw, ov, ⟨⟩⟩ (fun FY => .aU []) (fun FY => [.row g1000 2 1 51 (fun _ => [aN FY 0 g1000, .own 1 FY 0 Lb.af.aq.length]), .row FY 1 Lb.af.aq.length 5 (row cB Lb.af.aq), .row 0 4 1 29 (fun _ => a1.lit), .row ajV 1 ([[32]] : List ar).length 9 (row cS ([[32]] : List ar))]) fun FY => ?_))⟩)⟩⟩⟩⟩⟩
 obtain rfl := si h
 exact en [0, 1] ⟨FY, rfl, rfl⟩ (.bq ⟨⟩) ⟨(ob rfl ⟨.aN, .o, ⟨⟩⟩), od, ⟨⟩⟩
 intro _ ajX a0 a1 r h g1000 g1001
 refine gd Tryz.func42 ?_
 refine .d (.d ⟨row cS ([[123, 32]] : List ar), aC cS ([[123, 32]] : List ar) rfl (aB rfl), (bk h fun FB ajY h => (cm (aw (g1000 := g1000) (g1001 := g1001) (g1002 := 0) ajY) [0, 1, 3] ⟨cw, ov, ov, ⟨⟩⟩ ?_))⟩)
 rintro _ _ ⟨Ph, apu, rfl, rfl⟩
 refine ⟨.aU [], [.row g1000 2 1 51 (fun _ => [aN Ph 0 g1000, .own 1 Ph 0 FB.af.aq.length]), .row Ph 1 FB.af.aq.length 5 (row cB FB.af.aq), .row 0 4 1 29 (fun _ => a1.lit), .row apu 1 ([[123, 32]] : List ar).length 9 (row cS ([[123, 32]] : List ar))], rfl, atu, ?_⟩
 obtain ⟨aah, ajZ, aj0⟩ := bd h
 replace h := ajZ
 refine .cut (fun σ η => ∃ CT, ∃ L4 : Nat, CT = aah ∧ σ = [(0, .aM 0 g1000 0 0)] ∧ η = [.row g1000 2 1 51 (fun _ => [aN L4 0 g1000, .own 1 L4 0 CT.length]), .row L4 1 CT.length 5 (row cB CT)]) ?_ ?_
 refine .d ⟨rfl, ⟨rfl, _, rfl, ?_⟩⟩
 have aj1 := ajX _ _ _ _ h
 refine le (mX (motive := fun aj2 iX iH aj3 => ∀ L5 : Nat, a1 = aj2 → aah = aj3 → aG _ _ [(0, .aM 0 g1000 0 0), (10, sl 4 ae.cells a1.ah), (11, .int .i64 (a1.ah.length : Int)), (12, .int .i64 iH)] [.row g1000 2 1 51 (fun _ => [aN L5 0 g1000, .own 1 L5 0 iX.length]), .row L5 1 iX.length 5 (row cB iX)]) ?_ a1 FB.af.aq 0 aah aj1 Ph rfl rfl) (tk [0, 1] ⟨.p, .l, .i, .i, ⟨⟩⟩ ⟨(ob rfl ⟨.aN, .o, ⟨⟩⟩), od, ⟨⟩⟩)
 intro _ aj4 _ _ aj2 iX iH aj3 h aj5 L5 Pj aj6
 subst Pj
 subst aj6
 refine aG.round (.d (.d (sD h (fun Jb h => ?_) (fun Jb h => ?_))))
 refine .d (.d (bk h fun sY AB h => ⟨aA AB, _, (ax AB).trans (ae.au sY), ⟨rfl, _, fun _ => [.int .i64 sY.ai, .int .i64 sY.aD, .str sY.aj, sl 4 ae.cells sY.ah], rfl, bX rfl, (.d ⟨rfl, _, rfl, (bk h fun zk aj7 h => (cH (aj4 _ _ _ aj7 _ _) [0, 1] ⟨cw, ov, ⟨⟩⟩ (fun FZ => .aU []) (fun FZ => [.row g1000 2 1 51 (fun _ => [aN FZ 0 g1000, .own 1 FZ 0 zk.af.aq.length]), .row FZ 1 zk.af.aq.length 5 (row cB zk.af.aq), .row 0 4 1 29 (fun _ => sY.lit)]) fun FZ => ⟨row cS ([[32]] : List ar), aC cS ([[32]] : List ar) rfl (aB rfl), (bk h fun zl aj8 h => (cm (aw (g1000 := g1000) (g1001 := FZ) (g1002 := 0) aj8) [0, 1, 3] ⟨cw, ov, ov, ⟨⟩⟩ ?_))⟩))⟩)⟩⟩))
 rintro _ _ ⟨Pk, apv, rfl, rfl⟩
 exact ⟨.aU [], [.row g1000 2 1 51 (fun _ => [aN Pk 0 g1000, .own 1 Pk 0 zl.af.aq.length]), .row Pk 1 zl.af.aq.length 5 (row cB zl.af.aq), .row 0 4 1 29 (fun _ => sY.lit), .row apv 1 ([[32]] : List ar).length 9 (row cS ([[32]] : List ar))], rfl, atu, (lg (aj5 _ _ _ _ h Pk rfl rfl) (tk [0, 1] ⟨.p, .l, .i, .i, ⟨⟩⟩ ⟨(ob rfl ⟨.aN, .o, ⟨⟩⟩), od, ⟨⟩⟩))⟩
 exact ct ⟨_, L5, si h, rfl, rfl⟩ (tk [0, 1] ⟨.p, ⟨⟩⟩ ⟨(ob rfl ⟨.aN, .o, ⟨⟩⟩), od, ⟨⟩⟩)
 rintro _ _ ⟨CT, L4, rfl, rfl, rfl⟩
 replace h := aj0
 refine ⟨row cS ([[125]] : List ar), aC cS ([[125]] : List ar) rfl (aB rfl), (bk h fun Lc aj9 h => (cm (aw (g1000 := g1000) (g1001 := L4) (g1002 := 0) aj9) [0, 1, 2] ⟨cw, ov, ov, ⟨⟩⟩ ?_))⟩
 rintro _ _ ⟨Pl, apw, rfl, rfl⟩
 refine ⟨.aU [], [.row g1000 2 1 51 (fun _ => [aN Pl 0 g1000, .own 1 Pl 0 Lc.af.aq.length]), .row Pl 1 Lc.af.aq.length 5 (row cB Lc.af.aq), .row apw 1 ([[125]] : List ar).length 9 (row cS ([[125]] : List ar))], rfl, atu, ?_⟩
 obtain rfl := si h
 exact en [0, 1] ⟨Pl, rfl, rfl⟩ (.bq ⟨⟩) ⟨(ob rfl ⟨.aN, .o, ⟨⟩⟩), od, ⟨⟩⟩
 intro F0 F1 lu lv a1 iX iH o h
 exact .mk F1 lv F0 lu a1 iX iH o h
 intro _ _ _ _ _ _ km pc Ug aka xT akb a0 a1 r h g1000 g1001
 refine gd Tryz.func49 ?_
 refine .d (.d ⟨rfl, ⟨rfl, _, rfl, (.d (sE h (fun JO h => ?_) (fun JO h => ?_)))⟩⟩)
 refine ⟨rfl, ⟨rfl, _, rfl, ⟨row cS ([[63, 62, 10], a1.aj, [60, 63, 32]] : List ar), aC cS ([[63, 62, 10], a1.aj, [60, 63, 32]] : List ar) rfl (aB rfl), (bk h fun Lf akc h => (cm (aw (g1000 := g1000) (g1001 := g1001) (g1002 := 0) akc) [0, 1, 3] ⟨cw, ov, ov, ⟨⟩⟩ ?_))⟩⟩⟩
 rintro _ _ ⟨Pm, apx, rfl, rfl⟩
 refine ⟨.aU [], [.row g1000 2 1 51 (fun _ => [aN Pm 0 g1000, .own 1 Pm 0 Lf.af.aq.length]), .row Pm 1 Lf.af.aq.length 5 (row cB Lf.af.aq), .row 0 4 1 29 (fun _ => a1.lit), .row apx 1 ([[63, 62, 10], a1.aj, [60, 63, 32]] : List ar).length 9 (row cS ([[63, 62, 10], a1.aj, [60, 63, 32]] : List ar))], rfl, atu, ?_⟩
 obtain rfl := si h
 exact en [0, 1] ⟨Pm, rfl, rfl⟩ (.bq ⟨⟩) ⟨(ob rfl ⟨.aN, .o, ⟨⟩⟩), od, ⟨⟩⟩
 refine .d (sE h (fun JP h => ?_) (fun JP h => ?_))
 refine ⟨rfl, ⟨rfl, _, rfl, (bk h fun yK tD h => ⟨aA tD, _, (ax tD).trans (ae.au yK), (bk h fun wW JQ h => (cH (xT _ _ _ _ JQ _ _) [0, 1] ⟨cw, ov, ⟨⟩⟩ (fun Ga => .aU []) (fun Ga => [.row g1000 2 1 51 (fun _ => [aN Ga 0 g1000, .own 1 Ga 0 wW.af.aq.length]), .row Ga 1 wW.af.aq.length 5 (row cB wW.af.aq), .row 0 4 1 29 (fun _ => a1.lit)]) fun Ga => ?_))⟩)⟩⟩
 obtain rfl := si h
 exact en [0, 1] ⟨Ga, rfl, rfl⟩ (.bq ⟨⟩) ⟨(ob rfl ⟨.aN, .o, ⟨⟩⟩), od, ⟨⟩⟩
 refine .d (sE h (fun akd h => ?_) (fun akd h => ?_))
 refine ⟨rfl, ⟨rfl, _, rfl, (bk h fun ZP AE h => ⟨aA AE, _, (ax AE).trans (ae.au ZP), (bk h fun Lg ake h => (cH (xT _ _ _ _ ake _ _) [0, 1] ⟨cw, ov, ⟨⟩⟩ (fun Gb => .aU []) (fun Gb => [.row g1000 2 1 51 (fun _ => [aN Gb 0 g1000, .own 1 Gb 0 Lg.af.aq.length]), .row Gb 1 Lg.af.aq.length 5 (row cB Lg.af.aq), .row 0 4 1 29 (fun _ => a1.lit)]) fun Gb => ?_))⟩)⟩⟩
 obtain rfl := si h
 exact en [0, 1] ⟨Gb, rfl, rfl⟩ (.bq ⟨⟩) ⟨(ob rfl ⟨.aN, .o, ⟨⟩⟩), od, ⟨⟩⟩
 refine .d (sE h (fun akf h => ?_) (fun akf h => ?_))
 refine .d ⟨row cS ([[105, 102, 32, 40]] : List ar), aC cS ([[105, 102, 32, 40]] : List ar) rfl (aB rfl), (bk h fun Lh akg h => (cm (aw (g1000 := g1000) (g1001 := g1001) (g1002 := 0) akg) [0, 1, 3] ⟨cw, ov, ov, ⟨⟩⟩ ?_))⟩
 rintro _ _ ⟨aai, Gc, rfl, rfl⟩
 refine ⟨.aU [], [.row g1000 2 1 51 (fun _ => [aN aai 0 g1000, .own 1 aai 0 Lh.af.aq.length]), .row aai 1 Lh.af.aq.length 5 (row cB Lh.af.aq), .row 0 4 1 29 (fun _ => a1.lit), .row Gc 1 ([[105, 102, 32, 40]] : List ar).length 9 (row cS ([[105, 102, 32, 40]] : List ar))], rfl, atu, (.d ⟨rfl, ⟨rfl, _, rfl, (bk h fun ZQ Uh h => ⟨aA Uh, _, (ax Uh).trans (ae.au ZQ), (bk h fun Li akh h => (cH (km _ _ _ _ akh _ _) [0, 1] ⟨cw, ov, ⟨⟩⟩ (fun Gd => .aU []) (fun Gd => [.row g1000 2 1 51 (fun _ => [aN Gd 0 g1000, .own 1 Gd 0 Li.af.aq.length]), .row Gd 1 Li.af.aq.length 5 (row cB Li.af.aq), .row 0 4 1 29 (fun _ => a1.lit), .row Gc 1 ([[105, 102, 32, 40]] : List ar).length 9 (row cS ([[105, 102, 32, 40]] : List ar))]) fun Gd => (.d ⟨row cS ([[41, 32]] : List ar), aC cS ([[41, 32]] : List ar) rfl (aB rfl), (bk h fun Lj aki h => (cm (aw (g1000 := g1000) (g1001 := Gd) (g1002 := 0) aki) [0, 1, 4] ⟨cw, ov, ov, ⟨⟩⟩ ?_))⟩)))⟩)⟩⟩)⟩
 rintro _ _ ⟨aaj, Pn, rfl, rfl⟩
 refine ⟨.aU [], [.row g1000 2 1 51 (fun _ => [aN aaj 0 g1000, .own 1 aaj 0 Lj.af.aq.length]), .row aaj 1 Lj.af.aq.length 5 (row cB Lj.af.aq), .row 0 4 1 29 (fun _ => a1.lit), .row Gc 1 ([[105, 102, 32, 40]] : List ar).length 9 (row cS ([[105, 102, 32, 40]] : List ar)), .row Pn 1 ([[41, 32]] : List ar).length 9 (row cS ([[41, 32]] : List ar))], rfl, atu, (.d ⟨rfl, ⟨rfl, _, rfl, (bk h fun ZR Ui h => ⟨aA Ui, _, (ax Ui).trans (ae.au ZR), (bk h fun FC akj h => (cH (pc _ _ _ akj _ _) [0, 1] ⟨cw, ov, ⟨⟩⟩ (fun C6 => .aU []) (fun C6 => [.row g1000 2 1 51 (fun _ => [aN C6 0 g1000, .own 1 C6 0 FC.af.aq.length]), .row C6 1 FC.af.aq.length 5 (row cB FC.af.aq), .row 0 4 1 29 (fun _ => a1.lit), .row Gc 1 ([[105, 102, 32, 40]] : List ar).length 9 (row cS ([[105, 102, 32, 40]] : List ar)), .row Pn 1 ([[41, 32]] : List ar).length 9 (row cS ([[41, 32]] : List ar))]) fun C6 => (.d ⟨rfl, ⟨rfl, _, rfl, (sE h (fun akk h => ?_) (fun akk h => ?_))⟩⟩)))⟩)⟩⟩)⟩
 refine .d ⟨row cS ([[32, 101, 108, 115, 101, 32]] : List ar), aC cS ([[32, 101, 108, 115, 101, 32]] : List ar) rfl (aB rfl), (bk h fun Lk akl h => (cm (aw (g1000 := g1000) (g1001 := C6) (g1002 := 0) akl) [0, 1, 5] ⟨cw, ov, ov, ⟨⟩⟩ ?_))⟩
 rintro _ _ ⟨aak, akm, rfl, rfl⟩
 refine ⟨.aU [], [.row g1000 2 1 51 (fun _ => [aN aak 0 g1000, .own 1 aak 0 Lk.af.aq.length]), .row aak 1 Lk.af.aq.length 5 (row cB Lk.af.aq), .row 0 4 1 29 (fun _ => a1.lit), .row Gc 1 ([[105, 102, 32, 40]] : List ar).length 9 (row cS ([[105, 102, 32, 40]] : List ar)), .row Pn 1 ([[41, 32]] : List ar).length 9 (row cS ([[41, 32]] : List ar)), .row akm 1 ([[32, 101, 108, 115, 101, 32]] : List ar).length 9 (row cS ([[32, 101, 108, 115, 101, 32]] : List ar))], rfl, atu, ⟨rfl, ⟨rfl, _, rfl, (bk h fun ZS Uj h => ⟨aA Uj, _, (ax Uj).trans (ae.au ZS), (bk h fun Ll akn h => (cH (pc _ _ _ akn _ _) [0, 1] ⟨cw, ov, ⟨⟩⟩ (fun Ge => .aU []) (fun Ge => [.row g1000 2 1 51 (fun _ => [aN Ge 0 g1000, .own 1 Ge 0 Ll.af.aq.length]), .row Ge 1 Ll.af.aq.length 5 (row cB Ll.af.aq), .row 0 4 1 29 (fun _ => a1.lit), .row Gc 1 ([[105, 102, 32, 40]] : List ar).length 9 (row cS ([[105, 102, 32, 40]] : List ar)), .row Pn 1 ([[41, 32]] : List ar).length 9 (row cS ([[41, 32]] : List ar)), .row akm 1 ([[32, 101, 108, 115, 101, 32]] : List ar).length 9 (row cS ([[32, 101, 108, 115, 101, 32]] : List ar))]) fun Ge => ?_))⟩)⟩⟩⟩
 obtain rfl := si h
 exact en [0, 1] ⟨Ge, rfl, rfl⟩ (.bq ⟨⟩) ⟨(ob rfl ⟨.aN, .o, ⟨⟩⟩), od, ⟨⟩⟩
 obtain rfl := si h
 exact en [0, 1] ⟨C6, rfl, rfl⟩ (.bq ⟨⟩) ⟨(ob rfl ⟨.aN, .o, ⟨⟩⟩), od, ⟨⟩⟩
 refine .d (sE h (fun ako h => ?_) (fun ako h => ?_))
 refine .d ⟨row cS ([[119, 104, 105, 108, 101, 32, 40]] : List ar), aC cS ([[119, 104, 105, 108, 101, 32, 40]] : List ar) rfl (aB rfl), (bk h fun Lm akp h => (cm (aw (g1000 := g1000) (g1001 := g1001) (g1002 := 0) akp) [0, 1, 3] ⟨cw, ov, ov, ⟨⟩⟩ ?_))⟩
 rintro _ _ ⟨aal, Po, rfl, rfl⟩
 refine ⟨.aU [], [.row g1000 2 1 51 (fun _ => [aN aal 0 g1000, .own 1 aal 0 Lm.af.aq.length]), .row aal 1 Lm.af.aq.length 5 (row cB Lm.af.aq), .row 0 4 1 29 (fun _ => a1.lit), .row Po 1 ([[119, 104, 105, 108, 101, 32, 40]] : List ar).length 9 (row cS ([[119, 104, 105, 108, 101, 32, 40]] : List ar))], rfl, atu, (.d ⟨rfl, ⟨rfl, _, rfl, (bk h fun uW AG h => ⟨aA AG, _, (ax AG).trans (ae.au uW), (bk h fun uc Jf h => (cH (km _ _ _ _ Jf _ _) [0, 1] ⟨cw, ov, ⟨⟩⟩ (fun Gf => .aU []) (fun Gf => [.row g1000 2 1 51 (fun _ => [aN Gf 0 g1000, .own 1 Gf 0 uc.af.aq.length]), .row Gf 1 uc.af.aq.length 5 (row cB uc.af.aq), .row 0 4 1 29 (fun _ => a1.lit), .row Po 1 ([[119, 104, 105, 108, 101, 32, 40]] : List ar).length 9 (row cS ([[119, 104, 105, 108, 101, 32, 40]] : List ar))]) fun Gf => (.d ⟨row cS ([[41, 32]] : List ar), aC cS ([[41, 32]] : List ar) rfl (aB rfl), (bk h fun Ln akq h => (cm (aw (g1000 := g1000) (g1001 := Gf) (g1002 := 0) akq) [0, 1, 4] ⟨cw, ov, ov, ⟨⟩⟩ ?_))⟩)))⟩)⟩⟩)⟩
 rintro _ _ ⟨aam, akr, rfl, rfl⟩
 refine ⟨.aU [], [.row g1000 2 1 51 (fun _ => [aN aam 0 g1000, .own 1 aam 0 Ln.af.aq.length]), .row aam 1 Ln.af.aq.length 5 (row cB Ln.af.aq), .row 0 4 1 29 (fun _ => a1.lit), .row Po 1 ([[119, 104, 105, 108, 101, 32, 40]] : List ar).length 9 (row cS ([[119, 104, 105, 108, 101, 32, 40]] : List ar)), .row akr 1 ([[41, 32]] : List ar).length 9 (row cS ([[41, 32]] : List ar))], rfl, atu, ⟨rfl, ⟨rfl, _, rfl, (bk h fun ZT Uk h => ⟨aA Uk, _, (ax Uk).trans (ae.au ZT), (bk h fun Lo aks h => (cH (pc _ _ _ aks _ _) [0, 1] ⟨cw, ov, ⟨⟩⟩ (fun Gg => .aU []) (fun Gg => [.row g1000 2 1 51 (fun _ => [aN Gg 0 g1000, .own 1 Gg 0 Lo.af.aq.length]), .row Gg 1 Lo.af.aq.length 5 (row cB Lo.af.aq), .row 0 4 1 29 (fun _ => a1.lit), .row Po 1 ([[119, 104, 105, 108, 101, 32, 40]] : List ar).length 9 (row cS ([[119, 104, 105, 108, 101, 32, 40]] : List ar)), .row akr 1 ([[41, 32]] : List ar).length 9 (row cS ([[41, 32]] : List ar))]) fun Gg => ?_))⟩)⟩⟩⟩
 obtain rfl := si h
 exact en [0, 1] ⟨Gg, rfl, rfl⟩ (.bq ⟨⟩) ⟨(ob rfl ⟨.aN, .o, ⟨⟩⟩), od, ⟨⟩⟩
 refine .d (sE h (fun akt h => ?_) (fun akt h => ?_))
 refine .d ⟨row cS ([[102, 111, 114, 101, 97, 99, 104, 32, 40]] : List ar), aC cS ([[102, 111, 114, 101, 97, 99, 104, 32, 40]] : List ar) rfl (aB rfl), (bk h fun Lp aku h => (cm (aw (g1000 := g1000) (g1001 := g1001) (g1002 := 0) aku) [0, 1, 3] ⟨cw, ov, ov, ⟨⟩⟩ ?_))⟩
 rintro _ _ ⟨aan, Pp, rfl, rfl⟩
 refine ⟨.aU [], [.row g1000 2 1 51 (fun _ => [aN aan 0 g1000, .own 1 aan 0 Lp.af.aq.length]), .row aan 1 Lp.af.aq.length 5 (row cB Lp.af.aq), .row 0 4 1 29 (fun _ => a1.lit), .row Pp 1 ([[102, 111, 114, 101, 97, 99, 104, 32, 40]] : List ar).length 9 (row cS ([[102, 111, 114, 101, 97, 99, 104, 32, 40]] : List ar))], rfl, atu, (.d ⟨rfl, ⟨rfl, _, rfl, (bk h fun ZU Ul h => ⟨aA Ul, _, (ax Ul).trans (ae.au ZU), (bk h fun Lq akv h => (cH (km _ _ _ _ akv _ _) [0, 1] ⟨cw, ov, ⟨⟩⟩ (fun Gh => .aU []) (fun Gh => [.row g1000 2 1 51 (fun _ => [aN Gh 0 g1000, .own 1 Gh 0 Lq.af.aq.length]), .row Gh 1 Lq.af.aq.length 5 (row cB Lq.af.aq), .row 0 4 1 29 (fun _ => a1.lit), .row Pp 1 ([[102, 111, 114, 101, 97, 99, 104, 32, 40]] : List ar).length 9 (row cS ([[102, 111, 114, 101, 97, 99, 104, 32, 40]] : List ar))]) fun Gh => (.d ⟨rfl, ⟨rfl, _, rfl, (bk h fun zd Um h => ⟨aA Um, _, (ax Um).trans (ae.au zd), ⟨row cS ([[32, 97, 115, 32, 36], zd.aj] : List ar), aC cS ([[32, 97, 115, 32, 36], zd.aj] : List ar) rfl (aB rfl), (bk h fun FD akw h => ?_)⟩⟩)⟩⟩)))⟩)⟩⟩)⟩
 refine cm (aw (g1000 := g1000) (g1001 := Gh) (g1002 := 0) akw) [0, 1, 4] ⟨cw, ov, ov, ⟨⟩⟩ ?_
 rintro _ _ ⟨L6, akx, rfl, rfl⟩
 refine ⟨.aU [], [.row g1000 2 1 51 (fun _ => [aN L6 0 g1000, .own 1 L6 0 FD.af.aq.length]), .row L6 1 FD.af.aq.length 5 (row cB FD.af.aq), .row 0 4 1 29 (fun _ => a1.lit), .row Pp 1 ([[102, 111, 114, 101, 97, 99, 104, 32, 40]] : List ar).length 9 (row cS ([[102, 111, 114, 101, 97, 99, 104, 32, 40]] : List ar)), .row akx 1 ([[32, 97, 115, 32, 36], zd.aj] : List ar).length 9 (row cS ([[32, 97, 115, 32, 36], zd.aj] : List ar))], rfl, atu, ?_⟩
 obtain ⟨apy, aky, akz⟩ := bd h
 replace h := aky
 refine .cut (fun σ η => ∃ CV, ∃ L7 : Nat, CV = apy ∧ σ = [(0, .aM 0 g1000 0 0), (3, .aM 2 0 0 0)] ∧ η = [.row g1000 2 1 51 (fun _ => [aN L7 0 g1000, .own 1 L7 0 CV.length]), .row L7 1 CV.length 5 (row cB CV), .row 0 4 1 29 (fun _ => a1.lit)]) ?_ ?_
 refine .d ⟨rfl, ⟨rfl, _, rfl, (sE h (fun akA h => ?_) (fun akA h => ?_))⟩⟩
 refine ⟨rfl, ⟨rfl, _, rfl, (bk h fun CU Un h => ⟨aA Un, _, (ax Un).trans (ae.au CU), ⟨row cS ([[32, 61, 62, 32, 36], CU.aj] : List ar), aC cS ([[32, 61, 62, 32, 36], CU.aj] : List ar) rfl (aB rfl), (bk h fun Lr akB h => (cm (aw (g1000 := g1000) (g1001 := L6) (g1002 := 0) akB) [0, 1, 5] ⟨cw, ov, ov, ⟨⟩⟩ ?_))⟩⟩)⟩⟩
 rintro _ _ ⟨Pq, apz, rfl, rfl⟩
 exact ⟨.aU [], [.row g1000 2 1 51 (fun _ => [aN Pq 0 g1000, .own 1 Pq 0 Lr.af.aq.length]), .row Pq 1 Lr.af.aq.length 5 (row cB Lr.af.aq), .row 0 4 1 29 (fun _ => a1.lit), .row Pp 1 ([[102, 111, 114, 101, 97, 99, 104, 32, 40]] : List ar).length 9 (row cS ([[102, 111, 114, 101, 97, 99, 104, 32, 40]] : List ar)), .row akx 1 ([[32, 97, 115, 32, 36], zd.aj] : List ar).length 9 (row cS ([[32, 97, 115, 32, 36], zd.aj] : List ar)), .row apz 1 ([[32, 61, 62, 32, 36], CU.aj] : List ar).length 9 (row cS ([[32, 61, 62, 32, 36], CU.aj] : List ar))], rfl, atu, (ct ⟨_, Pq, si h, rfl, rfl⟩ (tk [0, 1, 2] ⟨.p, .p, ⟨⟩⟩ ⟨(ob rfl ⟨.aN, .o, ⟨⟩⟩), od, (cF rfl), ⟨⟩⟩))⟩
 exact ct ⟨_, L6, si h, rfl, rfl⟩ (tk [0, 1, 2] ⟨.p, .p, ⟨⟩⟩ ⟨(ob rfl ⟨.aN, .o, ⟨⟩⟩), od, (cF rfl), ⟨⟩⟩)
 rintro _ _ ⟨CV, L7, rfl, rfl, rfl⟩
 replace h := akz
 refine .d ⟨row cS ([[41, 32]] : List ar), aC cS ([[41, 32]] : List ar) rfl (aB rfl), (bk h fun Ls akC h => (cm (aw (g1000 := g1000) (g1001 := L7) (g1002 := 0) akC) [0, 1, 3] ⟨cw, ov, ov, ⟨⟩⟩ ?_))⟩
 rintro _ _ ⟨aao, akD, rfl, rfl⟩
 refine ⟨.aU [], [.row g1000 2 1 51 (fun _ => [aN aao 0 g1000, .own 1 aao 0 Ls.af.aq.length]), .row aao 1 Ls.af.aq.length 5 (row cB Ls.af.aq), .row 0 4 1 29 (fun _ => a1.lit), .row akD 1 ([[41, 32]] : List ar).length 9 (row cS ([[41, 32]] : List ar))], rfl, atu, ⟨rfl, ⟨rfl, _, rfl, ⟨rfl, ⟨rfl, _, rfl, (bk h fun ZV Uo h => ⟨aA Uo, _, (ax Uo).trans (ae.au ZV), (bk h fun Lt akE h => (cH (pc _ _ _ akE _ _) [0, 1] ⟨cw, ov, ⟨⟩⟩ (fun Gi => .aU []) (fun Gi => [.row g1000 2 1 51 (fun _ => [aN Gi 0 g1000, .own 1 Gi 0 Lt.af.aq.length]), .row Gi 1 Lt.af.aq.length 5 (row cB Lt.af.aq), .row 0 4 1 29 (fun _ => a1.lit), .row akD 1 ([[41, 32]] : List ar).length 9 (row cS ([[41, 32]] : List ar))]) fun Gi => ?_))⟩)⟩⟩⟩⟩⟩
 obtain rfl := si h
 exact en [0, 1] ⟨Gi, rfl, rfl⟩ (.bq ⟨⟩) ⟨(ob rfl ⟨.aN, .o, ⟨⟩⟩), od, ⟨⟩⟩
 refine .d (sE h (fun akF h => ?_) (fun akF h => ?_))
 refine ⟨row cS ([[98, 114, 101, 97, 107, 59]] : List ar), aC cS ([[98, 114, 101, 97, 107, 59]] : List ar) rfl (aB rfl), (bk h fun Lu akG h => (cm (aw (g1000 := g1000) (g1001 := g1001) (g1002 := 0) akG) [0, 1, 3] ⟨cw, ov, ov, ⟨⟩⟩ ?_))⟩
 rintro _ _ ⟨Pr, apA, rfl, rfl⟩
 refine ⟨.aU [], [.row g1000 2 1 51 (fun _ => [aN Pr 0 g1000, .own 1 Pr 0 Lu.af.aq.length]), .row Pr 1 Lu.af.aq.length 5 (row cB Lu.af.aq), .row 0 4 1 29 (fun _ => a1.lit), .row apA 1 ([[98, 114, 101, 97, 107, 59]] : List ar).length 9 (row cS ([[98, 114, 101, 97, 107, 59]] : List ar))], rfl, atu, ?_⟩
 obtain rfl := si h
 exact en [0, 1] ⟨Pr, rfl, rfl⟩ (.bq ⟨⟩) ⟨(ob rfl ⟨.aN, .o, ⟨⟩⟩), od, ⟨⟩⟩
 refine .d (sE h (fun akH h => ?_) (fun akH h => ?_))
 refine ⟨row cS ([[99, 111, 110, 116, 105, 110, 117, 101, 59]] : List ar), aC cS ([[99, 111, 110, 116, 105, 110, 117, 101, 59]] : List ar) rfl (aB rfl), (bk h fun Lv akI h => (cm (aw (g1000 := g1000) (g1001 := g1001) (g1002 := 0) akI) [0, 1, 3] ⟨cw, ov, ov, ⟨⟩⟩ ?_))⟩
 rintro _ _ ⟨Ps, apB, rfl, rfl⟩
 refine ⟨.aU [], [.row g1000 2 1 51 (fun _ => [aN Ps 0 g1000, .own 1 Ps 0 Lv.af.aq.length]), .row Ps 1 Lv.af.aq.length 5 (row cB Lv.af.aq), .row 0 4 1 29 (fun _ => a1.lit), .row apB 1 ([[99, 111, 110, 116, 105, 110, 117, 101, 59]] : List ar).length 9 (row cS ([[99, 111, 110, 116, 105, 110, 117, 101, 59]] : List ar))], rfl, atu, ?_⟩
 obtain rfl := si h
 exact en [0, 1] ⟨Ps, rfl, rfl⟩ (.bq ⟨⟩) ⟨(ob rfl ⟨.aN, .o, ⟨⟩⟩), od, ⟨⟩⟩
 refine .d (sE h (fun akJ h => ?_) (fun akJ h => ?_))
 refine .d ⟨rfl, ⟨rfl, _, rfl, (sE h (fun akK h => ?_) (fun akK h => ?_))⟩⟩
 refine ⟨row cS ([[114, 101, 116, 117, 114, 110, 59]] : List ar), aC cS ([[114, 101, 116, 117, 114, 110, 59]] : List ar) rfl (aB rfl), (bk h fun Lw akL h => (cm (aw (g1000 := g1000) (g1001 := g1001) (g1002 := 0) akL) [0, 1, 3] ⟨cw, ov, ov, ⟨⟩⟩ ?_))⟩
 rintro _ _ ⟨Pt, apC, rfl, rfl⟩
 refine ⟨.aU [], [.row g1000 2 1 51 (fun _ => [aN Pt 0 g1000, .own 1 Pt 0 Lw.af.aq.length]), .row Pt 1 Lw.af.aq.length 5 (row cB Lw.af.aq), .row 0 4 1 29 (fun _ => a1.lit), .row apC 1 ([[114, 101, 116, 117, 114, 110, 59]] : List ar).length 9 (row cS ([[114, 101, 116, 117, 114, 110, 59]] : List ar))], rfl, atu, ?_⟩
 obtain rfl := si h
 exact en [0, 1] ⟨Pt, rfl, rfl⟩ (.bq ⟨⟩) ⟨(ob rfl ⟨.aN, .o, ⟨⟩⟩), od, ⟨⟩⟩
 refine ⟨rfl, ⟨rfl, _, rfl, (bk h fun ZW Up h => ⟨aA Up, _, (ax Up).trans (ae.au ZW), (bk h fun Lx akM h => (cH (xT _ _ _ _ akM _ _) [0, 1] ⟨cw, ov, ⟨⟩⟩ (fun Gj => .aU []) (fun Gj => [.row g1000 2 1 51 (fun _ => [aN Gj 0 g1000, .own 1 Gj 0 Lx.af.aq.length]), .row Gj 1 Lx.af.aq.length 5 (row cB Lx.af.aq), .row 0 4 1 29 (fun _ => a1.lit)]) fun Gj => ?_))⟩)⟩⟩
 obtain rfl := si h
 exact en [0, 1] ⟨Gj, rfl, rfl⟩ (.bq ⟨⟩) ⟨(ob rfl ⟨.aN, .o, ⟨⟩⟩), od, ⟨⟩⟩
 refine .d (sE h (fun akN h => ?_) (fun akN h => ?_))
 refine ⟨rfl, ⟨rfl, _, rfl, ⟨row cS ([[103, 108, 111, 98, 97, 108, 32, 36], a1.aj, [59]] : List ar), aC cS ([[103, 108, 111, 98, 97, 108, 32, 36], a1.aj, [59]] : List ar) rfl (aB rfl), (bk h fun Ly akO h => (cm (aw (g1000 := g1000) (g1001 := g1001) (g1002 := 0) akO) [0, 1, 3] ⟨cw, ov, ov, ⟨⟩⟩ ?_))⟩⟩⟩
 rintro _ _ ⟨Pu, apD, rfl, rfl⟩
 refine ⟨.aU [], [.row g1000 2 1 51 (fun _ => [aN Pu 0 g1000, .own 1 Pu 0 Ly.af.aq.length]), .row Pu 1 Ly.af.aq.length 5 (row cB Ly.af.aq), .row 0 4 1 29 (fun _ => a1.lit), .row apD 1 ([[103, 108, 111, 98, 97, 108, 32, 36], a1.aj, [59]] : List ar).length 9 (row cS ([[103, 108, 111, 98, 97, 108, 32, 36], a1.aj, [59]] : List ar))], rfl, atu, ?_⟩
 obtain rfl := si h
 exact en [0, 1] ⟨Pu, rfl, rfl⟩ (.bq ⟨⟩) ⟨(ob rfl ⟨.aN, .o, ⟨⟩⟩), od, ⟨⟩⟩
 refine .d (sE h (fun akP h => ?_) (fun akP h => ?_))
 refine .d ⟨row cS ([[117, 110, 115, 101, 116, 40]] : List ar), aC cS ([[117, 110, 115, 101, 116, 40]] : List ar) rfl (aB rfl), (bk h fun Lz akQ h => (cm (aw (g1000 := g1000) (g1001 := g1001) (g1002 := 0) akQ) [0, 1, 3] ⟨cw, ov, ov, ⟨⟩⟩ ?_))⟩
 rintro _ _ ⟨aap, aaq, rfl, rfl⟩
 refine ⟨.aU [], [.row g1000 2 1 51 (fun _ => [aN aap 0 g1000, .own 1 aap 0 Lz.af.aq.length]), .row aap 1 Lz.af.aq.length 5 (row cB Lz.af.aq), .row 0 4 1 29 (fun _ => a1.lit), .row aaq 1 ([[117, 110, 115, 101, 116, 40]] : List ar).length 9 (row cS ([[117, 110, 115, 101, 116, 40]] : List ar))], rfl, atu, (.d ⟨rfl, ⟨rfl, _, rfl, (bk h fun ZX Uq h => ⟨aA Uq, _, (ax Uq).trans (ae.au ZX), (bk h fun LA akR h => (cH (km _ _ _ _ akR _ _) [0, 1] ⟨cw, ov, ⟨⟩⟩ (fun Gk => .aU []) (fun Gk => [.row g1000 2 1 51 (fun _ => [aN Gk 0 g1000, .own 1 Gk 0 LA.af.aq.length]), .row Gk 1 LA.af.aq.length 5 (row cB LA.af.aq), .row 0 4 1 29 (fun _ => a1.lit), .row aaq 1 ([[117, 110, 115, 101, 116, 40]] : List ar).length 9 (row cS ([[117, 110, 115, 101, 116, 40]] : List ar))]) fun Gk => ⟨row cS ([[41, 59]] : List ar), aC cS ([[41, 59]] : List ar) rfl (aB rfl), (bk h fun LB akS h => (cm (aw (g1000 := g1000) (g1001 := Gk) (g1002 := 0) akS) [0, 1, 4] ⟨cw, ov, ov, ⟨⟩⟩ ?_))⟩))⟩)⟩⟩)⟩
 rintro _ _ ⟨Pv, apE, rfl, rfl⟩
 refine ⟨.aU [], [.row g1000 2 1 51 (fun _ => [aN Pv 0 g1000, .own 1 Pv 0 LB.af.aq.length]), .row Pv 1 LB.af.aq.length 5 (row cB LB.af.aq), .row 0 4 1 29 (fun _ => a1.lit), .row aaq 1 ([[117, 110, 115, 101, 116, 40]] : List ar).length 9 (row cS ([[117, 110, 115, 101, 116, 40]] : List ar)), .row apE 1 ([[41, 59]] : List ar).length 9 (row cS ([[41, 59]] : List ar))], rfl, atu, ?_⟩
 obtain rfl := si h
 exact en [0, 1] ⟨Pv, rfl, rfl⟩ (.bq ⟨⟩) ⟨(ob rfl ⟨.aN, .o, ⟨⟩⟩), od, ⟨⟩⟩
 refine .d (sE h (fun akT h => ?_) (fun akT h => ?_))
 refine ⟨rfl, ⟨rfl, _, rfl, (bk h fun ZY Ur h => ⟨aA Ur, _, (ax Ur).trans (ae.au ZY), (bk h fun LC akU h => (cH (xT _ _ _ _ akU _ _) [0, 1] ⟨cw, ov, ⟨⟩⟩ (fun Gl => .aU []) (fun Gl => [.row g1000 2 1 51 (fun _ => [aN Gl 0 g1000, .own 1 Gl 0 LC.af.aq.length]), .row Gl 1 LC.af.aq.length 5 (row cB LC.af.aq), .row 0 4 1 29 (fun _ => a1.lit)]) fun Gl => ?_))⟩)⟩⟩
 obtain rfl := si h
 exact en [0, 1] ⟨Gl, rfl, rfl⟩ (.bq ⟨⟩) ⟨(ob rfl ⟨.aN, .o, ⟨⟩⟩), od, ⟨⟩⟩
 refine .d (sE h (fun akV h => ?_) (fun akV h => ?_))
 refine .d (.d ⟨rfl, ⟨rfl, _, rfl, (sE h (fun akW h => ?_) (fun akW h => ?_))⟩⟩)
 refine ⟨rfl, ⟨rfl, _, rfl, (bk h fun ze Us h => ⟨aA Us, _, (ax Us).trans (ae.au ze), ⟨row cS ([[36], ze.aj, [32, 61, 32]] : List ar), aC cS ([[36], ze.aj, [32, 61, 32]] : List ar) rfl (aB rfl), (bk h fun LD akX h => (cm (aw (g1000 := g1000) (g1001 := g1001) (g1002 := 0) akX) [0, 1, 3] ⟨cw, ov, ov, ⟨⟩⟩ ?_))⟩⟩)⟩⟩
 rintro _ _ ⟨aar, akY, rfl, rfl⟩
 refine ⟨.aU [], [.row g1000 2 1 51 (fun _ => [aN aar 0 g1000, .own 1 aar 0 LD.af.aq.length]), .row aar 1 LD.af.aq.length 5 (row cB LD.af.aq), .row 0 4 1 29 (fun _ => a1.lit), .row akY 1 ([[36], ze.aj, [32, 61, 32]] : List ar).length 9 (row cS ([[36], ze.aj, [32, 61, 32]] : List ar))], rfl, atu, ⟨rfl, ⟨rfl, _, rfl, ⟨rfl, ⟨rfl, _, rfl, (bk h fun ZZ Ut h => ⟨aA Ut, _, (ax Ut).trans (ae.au ZZ), (bk h fun LF akZ h => (cH (xT _ _ _ _ akZ _ _) [0, 1] ⟨cw, ov, ⟨⟩⟩ (fun Gm => .aU []) (fun Gm => [.row g1000 2 1 51 (fun _ => [aN Gm 0 g1000, .own 1 Gm 0 LF.af.aq.length]), .row Gm 1 LF.af.aq.length 5 (row cB LF.af.aq), .row 0 4 1 29 (fun _ => a1.lit), .row akY 1 ([[36], ze.aj, [32, 61, 32]] : List ar).length 9 (row cS ([[36], ze.aj, [32, 61, 32]] : List ar))]) fun Gm => ?_))⟩)⟩⟩⟩⟩⟩
 obtain rfl := si h
 exact en [0, 1] ⟨Gm, rfl, rfl⟩ (.bq ⟨⟩) ⟨(ob rfl ⟨.aN, .o, ⟨⟩⟩), od, ⟨⟩⟩
 refine ⟨rfl, ⟨rfl, _, rfl, ⟨rfl, ⟨rfl, _, rfl, (bk h fun Z0 Uu h => ⟨aA Uu, _, (ax Uu).trans (ae.au Z0), (bk h fun LG ak0 h => (cH (xT _ _ _ _ ak0 _ _) [0, 1] ⟨cw, ov, ⟨⟩⟩ (fun Gn => .aU []) (fun Gn => [.row g1000 2 1 51 (fun _ => [aN Gn 0 g1000, .own 1 Gn 0 LG.af.aq.length]), .row Gn 1 LG.af.aq.length 5 (row cB LG.af.aq), .row 0 4 1 29 (fun _ => a1.lit)]) fun Gn => ?_))⟩)⟩⟩⟩⟩
 obtain rfl := si h
 exact en [0, 1] ⟨Gn, rfl, rfl⟩ (.bq ⟨⟩) ⟨(ob rfl ⟨.aN, .o, ⟨⟩⟩), od, ⟨⟩⟩
 refine .d (sE h (fun ak1 h => ?_) (fun ak1 h => ?_))
 refine ⟨rfl, ⟨rfl, _, rfl, (bk h fun FE ak2 h => (aS (pa ak2) ⟨row cS ([[105, 110, 99, 108, 117, 100, 101, 32], FE, [59]] : List ar), aC cS ([[105, 110, 99, 108, 117, 100, 101, 32], FE, [59]] : List ar) rfl (aB rfl), (bk h fun LH ak3 h => (cm (aw (g1000 := g1000) (g1001 := g1001) (g1002 := 0) ak3) [0, 1, 3] ⟨cw, ov, ov, ⟨⟩⟩ ?_))⟩))⟩⟩
 rintro _ _ ⟨Pw, apF, rfl, rfl⟩
 refine ⟨.aU [], [.row g1000 2 1 51 (fun _ => [aN Pw 0 g1000, .own 1 Pw 0 LH.af.aq.length]), .row Pw 1 LH.af.aq.length 5 (row cB LH.af.aq), .row 0 4 1 29 (fun _ => a1.lit), .row apF 1 ([[105, 110, 99, 108, 117, 100, 101, 32], FE, [59]] : List ar).length 9 (row cS ([[105, 110, 99, 108, 117, 100, 101, 32], FE, [59]] : List ar))], rfl, atu, ?_⟩
 obtain rfl := si h
 exact en [0, 1] ⟨Pw, rfl, rfl⟩ (.bq ⟨⟩) ⟨(ob rfl ⟨.aN, .o, ⟨⟩⟩), od, ⟨⟩⟩
 refine .d (sE h (fun ak4 h => ?_) (fun ak4 h => ?_))
 refine ⟨rfl, _, rfl, (bk h fun LI ak5 h => (cH (pc _ _ _ ak5 _ _) [0, 1] ⟨cw, ov, ⟨⟩⟩ (fun Gp => .aU []) (fun Gp => [.row g1000 2 1 51 (fun _ => [aN Gp 0 g1000, .own 1 Gp 0 LI.af.aq.length]), .row Gp 1 LI.af.aq.length 5 (row cB LI.af.aq), .row 0 4 1 29 (fun _ => a1.lit)]) fun Gp => ?_))⟩
 obtain rfl := si h
 exact en [0, 1] ⟨Gp, rfl, rfl⟩ (.bq ⟨⟩) ⟨(ob rfl ⟨.aN, .o, ⟨⟩⟩), od, ⟨⟩⟩
 refine .d (sE h (fun ak6 h => ?_) (fun ak6 h => ?_))
 refine ⟨rfl, _, rfl, (bk h fun LJ ak7 h => (cH (akb _ _ _ ak7 _ _) [0, 1] ⟨cw, ov, ⟨⟩⟩ (fun Gq => .aU []) (fun Gq => [.row g1000 2 1 51 (fun _ => [aN Gq 0 g1000, .own 1 Gq 0 LJ.af.aq.length]), .row Gq 1 LJ.af.aq.length 5 (row cB LJ.af.aq), .row 0 4 1 29 (fun _ => a1.lit)]) fun Gq => ?_))⟩
 obtain rfl := si h
 exact en [0, 1] ⟨Gq, rfl, rfl⟩ (.bq ⟨⟩) ⟨(ob rfl ⟨.aN, .o, ⟨⟩⟩), od, ⟨⟩⟩
 refine .d (sE h (fun ak8 h => ?_) (fun ak8 h => ?_))
 refine ⟨rfl, _, rfl, (bk h fun LK ak9 h => (cH (aka _ _ _ ak9 _ _) [0, 1] ⟨cw, ov, ⟨⟩⟩ (fun Gr => .aU []) (fun Gr => [.row g1000 2 1 51 (fun _ => [aN Gr 0 g1000, .own 1 Gr 0 LK.af.aq.length]), .row Gr 1 LK.af.aq.length 5 (row cB LK.af.aq), .row 0 4 1 29 (fun _ => a1.lit)]) fun Gr => ?_))⟩
 obtain rfl := si h
 exact en [0, 1] ⟨Gr, rfl, rfl⟩ (.bq ⟨⟩) ⟨(ob rfl ⟨.aN, .o, ⟨⟩⟩), od, ⟨⟩⟩
 refine .d (sE h (fun ala h => ?_) (fun ala h => ?_))
 refine ⟨rfl, _, rfl, (bk h fun LL alb h => (cH (Ug _ _ _ _ alb _ _) [0, 1] ⟨cw, ov, ⟨⟩⟩ (fun Gs => .aU []) (fun Gs => [.row g1000 2 1 51 (fun _ => [aN Gs 0 g1000, .own 1 Gs 0 LL.af.aq.length]), .row Gs 1 LL.af.aq.length 5 (row cB LL.af.aq), .row 0 4 1 29 (fun _ => a1.lit)]) fun Gs => ?_))⟩
 obtain rfl := si h
 exact en [0, 1] ⟨Gs, rfl, rfl⟩ (.bq ⟨⟩) ⟨(ob rfl ⟨.aN, .o, ⟨⟩⟩), od, ⟨⟩⟩
 refine .d (sE h (fun alc h => ?_) (fun alc h => ?_))
 refine ⟨rfl, _, rfl, (bk h fun LM ald h => (cH (Ug _ _ _ _ ald _ _) [0, 1] ⟨cw, ov, ⟨⟩⟩ (fun Gt => .aU []) (fun Gt => [.row g1000 2 1 51 (fun _ => [aN Gt 0 g1000, .own 1 Gt 0 LM.af.aq.length]), .row Gt 1 LM.af.aq.length 5 (row cB LM.af.aq), .row 0 4 1 29 (fun _ => a1.lit)]) fun Gt => ?_))⟩
 obtain rfl := si h
 exact en [0, 1] ⟨Gt, rfl, rfl⟩ (.bq ⟨⟩) ⟨(ob rfl ⟨.aN, .o, ⟨⟩⟩), od, ⟨⟩⟩
 obtain rfl := si h
 exact en [0, 1] ⟨g1001, rfl, rfl⟩ (.bq ⟨⟩) ⟨(ob rfl ⟨.aN, .o, ⟨⟩⟩), od, ⟨⟩⟩
 intro _ ale a0 a1 a2 r h g1000 g1001
 refine gd Tryz.func99 ?_
 refine .d (.d ⟨rfl, ⟨rfl, _, rfl, ⟨row cS ([a1, a2.aj] : List ar), aC cS ([a1, a2.aj] : List ar) rfl (aB rfl), (bk h fun CW alf h => (cm (aw (g1000 := g1000) (g1001 := g1001) (g1002 := 0) alf) [0, 1, 3] ⟨cw, ov, ov, ⟨⟩⟩ ?_))⟩⟩⟩)
 rintro _ _ ⟨Gu, alg, rfl, rfl⟩
 refine ⟨.aU [], [.row g1000 2 1 51 (fun _ => [aN Gu 0 g1000, .own 1 Gu 0 CW.af.aq.length]), .row Gu 1 CW.af.aq.length 5 (row cB CW.af.aq), .row 0 4 1 29 (fun _ => a2.lit), .row alg 1 ([a1, a2.aj] : List ar).length 9 (row cS ([a1, a2.aj] : List ar))], rfl, atu, (.d ⟨rfl, ⟨rfl, _, rfl, ?_⟩⟩)⟩
 obtain ⟨apG, alh, ali⟩ := bd h
 replace h := alh
 refine .cut (fun σ η => ∃ CY, ∃ dW, ∃ L8 : Nat, (CY, dW) = apG ∧ σ = [(0, .aM 0 g1000 0 0), (6, sl 4 ae.cells dW)] ∧ η = [.row g1000 2 1 51 (fun _ => [aN L8 0 g1000, .own 1 L8 0 CY.length]), .row L8 1 CY.length 5 (row cB CY)]) ?_ ?_
 refine .d (sD h (fun alj h => ?_) (fun alj h => ?_))
 refine .t (bk h fun Z3 Uv h => ⟨aA Uv, _, (ax Uv).trans (ae.au Z3), (.t (.t (.t (.t (sE h (fun alk h => ?_) (fun alk h => ?_))))))⟩)
 refine .d (bk h fun CX Uw h => ⟨aA Uw, _, (ax Uw).trans (ae.au CX), ⟨row cS ([[32, 101, 120, 116, 101, 110, 100, 115, 32], CX.aj] : List ar), aC cS ([[32, 101, 120, 116, 101, 110, 100, 115, 32], CX.aj] : List ar) rfl (aB rfl), (bk h fun LS alm h => (cm (aw (g1000 := g1000) (g1001 := Gu) (g1002 := 0) alm) [0, 1, 4] ⟨cw, ov, ov, ⟨⟩⟩ ?_))⟩⟩)
 rintro _ _ ⟨Px, apH, rfl, rfl⟩
 exact ⟨.aU [], [.row g1000 2 1 51 (fun _ => [aN Px 0 g1000, .own 1 Px 0 LS.af.aq.length]), .row Px 1 LS.af.aq.length 5 (row cB LS.af.aq), .row 0 4 1 29 (fun _ => a2.lit), .row alg 1 ([a1, a2.aj] : List ar).length 9 (row cS ([a1, a2.aj] : List ar)), .row apH 1 ([[32, 101, 120, 116, 101, 110, 100, 115, 32], CX.aj] : List ar).length 9 (row cS ([[32, 101, 120, 116, 101, 110, 100, 115, 32], CX.aj] : List ar))], rfl, atu, (bk h fun Pd L9 h => ⟨trivial, gU L9, Pd.length, row ae.cells Pd, fK L9, fL L9, (ct ⟨_, _, Px, si h, rfl, rfl⟩ (tk [0, 1] ⟨.p, .l, ⟨⟩⟩ ⟨(ob rfl ⟨.aN, .o, ⟨⟩⟩), od, ⟨⟩⟩))⟩)⟩
 exact ct ⟨_, _, Gu, si h, rfl, rfl⟩ (tk [0, 1] ⟨.p, .l, ⟨⟩⟩ ⟨(ob rfl ⟨.aN, .o, ⟨⟩⟩), od, ⟨⟩⟩)
 exact .f (.f (.f (.f (.f (.f (ct ⟨_, _, Gu, si h, rfl, rfl⟩ (tk [0, 1] ⟨.p, .l, ⟨⟩⟩ ⟨(ob rfl ⟨.aN, .o, ⟨⟩⟩), od, ⟨⟩⟩)))))))
 rintro _ _ ⟨CY, dW, L8, rfl, rfl, rfl⟩
 replace h := ali
 refine .d ⟨row cS ([[32, 123, 32]] : List ar), aC cS ([[32, 123, 32]] : List ar) rfl (aB rfl), (bk h fun FF aln h => (cm (aw (g1000 := g1000) (g1001 := L8) (g1002 := 0) aln) [0, 1, 2] ⟨cw, ov, ov, ⟨⟩⟩ ?_))⟩
 rintro _ _ ⟨Py, apI, rfl, rfl⟩
 refine ⟨.aU [], [.row g1000 2 1 51 (fun _ => [aN Py 0 g1000, .own 1 Py 0 FF.af.aq.length]), .row Py 1 FF.af.aq.length 5 (row cB FF.af.aq), .row apI 1 ([[32, 123, 32]] : List ar).length 9 (row cS ([[32, 123, 32]] : List ar))], rfl, atu, ?_⟩
 obtain ⟨aas, alo, alp⟩ := bd h
 replace h := alo
 refine .cut (fun σ η => ∃ CZ, ∃ Ma : Nat, CZ = aas ∧ σ = [(0, .aM 0 g1000 0 0)] ∧ η = [.row g1000 2 1 51 (fun _ => [aN Ma 0 g1000, .own 1 Ma 0 CZ.length]), .row Ma 1 CZ.length 5 (row cB CZ)]) ?_ ?_
 refine .d ?_
 have alq := ale _ _ _ _ h
 refine le (mY (motive := fun alr gD fW als => ∀ Bx : Nat, dW = alr → aas = als → aG _ _ [(0, .aM 0 g1000 0 0), (39, sl 4 ae.cells dW), (40, .int .i64 (dW.length : Int)), (41, .int .i64 fW)] [.row g1000 2 1 51 (fun _ => [aN Bx 0 g1000, .own 1 Bx 0 gD.length]), .row Bx 1 gD.length 5 (row cB gD)]) ?_ dW FF.af.aq 0 aas alq Py rfl rfl) (tk [0, 1] ⟨.p, .l, .i, .i, ⟨⟩⟩ ⟨(ob rfl ⟨.aN, .o, ⟨⟩⟩), od, ⟨⟩⟩)
 intro _ alu _ alv _ _ alr gD fW als h Mb Bx Pz alw
 subst Pz
 subst alw
 refine aG.round (.d (.d (sD h (fun alx h => ?_) (fun alx h => ?_))))
 refine .d (.d (bk h fun fy Ux h => ⟨aA Ux, _, (ax Ux).trans (ae.au fy), ⟨rfl, _, fun _ => [.int .i64 fy.ai, .int .i64 fy.aD, .str fy.aj, sl 4 ae.cells fy.ah], rfl, bX rfl, (.d (.d ⟨rfl, ⟨rfl, _, rfl, (sE h (fun aly h => ?_) (fun aly h => ?_))⟩⟩))⟩⟩))
 refine .d ⟨rfl, ⟨rfl, _, rfl, ⟨row cS ([[117, 115, 101, 32], fy.aj, [59, 32]] : List ar), aC cS ([[117, 115, 101, 32], fy.aj, [59, 32]] : List ar) rfl (aB rfl), (bk h fun zq alz h => (cm (aw (g1000 := g1000) (g1001 := Bx) (g1002 := 0) alz) [0, 1, 3] ⟨cw, ov, ov, ⟨⟩⟩ ?_))⟩⟩⟩
 rintro _ _ ⟨PA, apJ, rfl, rfl⟩
 exact ⟨.aU [], [.row g1000 2 1 51 (fun _ => [aN PA 0 g1000, .own 1 PA 0 zq.af.aq.length]), .row PA 1 zq.af.aq.length 5 (row cB zq.af.aq), .row 0 4 1 29 (fun _ => fy.lit), .row apJ 1 ([[117, 115, 101, 32], fy.aj, [59, 32]] : List ar).length 9 (row cS ([[117, 115, 101, 32], fy.aj, [59, 32]] : List ar))], rfl, atu, (lg (Mb _ _ _ _ h PA rfl rfl) (tk [0, 1] ⟨.p, .l, .i, .i, ⟨⟩⟩ ⟨(ob rfl ⟨.aN, .o, ⟨⟩⟩), od, ⟨⟩⟩))⟩
 obtain ⟨apK, alA, alB⟩ := bd h
 replace h := alA
 refine .cut (fun σ η => ∃ rV, ∃ Gv : Nat, rV = apK ∧ σ = [(0, .aM 0 g1000 0 0), (8, .aM 2 0 0 0), (39, sl 4 ae.cells dW), (40, .int .i64 (dW.length : Int)), (41, .int .i64 fW)] ∧ η = [.row g1000 2 1 51 (fun _ => [aN Gv 0 g1000, .own 1 Gv 0 rV.length]), .row Gv 1 rV.length 5 (row cB rV), .row 0 4 1 29 (fun _ => fy.lit)]) ?_ ?_
 refine .d ⟨rfl, ⟨rfl, _, rfl, (sN h (fun alC h => ?_) (fun alC h => ?_))⟩⟩
 refine ⟨row cS ([[112, 114, 105, 118, 97, 116, 101, 32]] : List ar), aC cS ([[112, 114, 105, 118, 97, 116, 101, 32]] : List ar) rfl (aB rfl), (bk h fun zr alD h => (cm (aw (g1000 := g1000) (g1001 := Bx) (g1002 := 0) alD) [0, 1, 3] ⟨cw, ov, ov, ⟨⟩⟩ ?_))⟩
 rintro _ _ ⟨PB, apL, rfl, rfl⟩
 exact ⟨.aU [], [.row g1000 2 1 51 (fun _ => [aN PB 0 g1000, .own 1 PB 0 zr.af.aq.length]), .row PB 1 zr.af.aq.length 5 (row cB zr.af.aq), .row 0 4 1 29 (fun _ => fy.lit), .row apL 1 ([[112, 114, 105, 118, 97, 116, 101, 32]] : List ar).length 9 (row cS ([[112, 114, 105, 118, 97, 116, 101, 32]] : List ar))], rfl, atu, (ct ⟨_, PB, si h, rfl, rfl⟩ (tk [0, 1, 2] ⟨.p, .p, .l, .i, .i, ⟨⟩⟩ ⟨(ob rfl ⟨.aN, .o, ⟨⟩⟩), od, (cF rfl), ⟨⟩⟩))⟩
 exact ct ⟨_, Bx, si h, rfl, rfl⟩ (tk [0, 1, 2] ⟨.p, .p, .l, .i, .i, ⟨⟩⟩ ⟨(ob rfl ⟨.aN, .o, ⟨⟩⟩), od, (cF rfl), ⟨⟩⟩)
 rintro _ _ ⟨rV, Gv, rfl, rfl, rfl⟩
 replace h := alB
 obtain ⟨apM, alE, alF⟩ := bd h
 replace h := alE
 refine .cut (fun σ η => ∃ rW, ∃ PC : Nat, rW = apM ∧ σ = [(0, .aM 0 g1000 0 0), (8, .aM 2 0 0 0), (39, sl 4 ae.cells dW), (40, .int .i64 (dW.length : Int)), (41, .int .i64 fW)] ∧ η = [.row g1000 2 1 51 (fun _ => [aN PC 0 g1000, .own 1 PC 0 rW.length]), .row PC 1 rW.length 5 (row cB rW), .row 0 4 1 29 (fun _ => fy.lit)]) ?_ ?_
 refine .d ⟨rfl, ⟨rfl, _, rfl, (sN h (fun alG h => ?_) (fun alG h => ?_))⟩⟩
 refine ⟨row cS ([[115, 116, 97, 116, 105, 99, 32]] : List ar), aC cS ([[115, 116, 97, 116, 105, 99, 32]] : List ar) rfl (aB rfl), (bk h fun zs alH h => (cm (aw (g1000 := g1000) (g1001 := Gv) (g1002 := 0) alH) [0, 1, 3] ⟨cw, ov, ov, ⟨⟩⟩ ?_))⟩
 rintro _ _ ⟨PE, apN, rfl, rfl⟩
 exact ⟨.aU [], [.row g1000 2 1 51 (fun _ => [aN PE 0 g1000, .own 1 PE 0 zs.af.aq.length]), .row PE 1 zs.af.aq.length 5 (row cB zs.af.aq), .row 0 4 1 29 (fun _ => fy.lit), .row apN 1 ([[115, 116, 97, 116, 105, 99, 32]] : List ar).length 9 (row cS ([[115, 116, 97, 116, 105, 99, 32]] : List ar))], rfl, atu, (ct ⟨_, PE, si h, rfl, rfl⟩ (tk [0, 1, 2] ⟨.p, .p, .l, .i, .i, ⟨⟩⟩ ⟨(ob rfl ⟨.aN, .o, ⟨⟩⟩), od, (cF rfl), ⟨⟩⟩))⟩
 exact ct ⟨_, Gv, si h, rfl, rfl⟩ (tk [0, 1, 2] ⟨.p, .p, .l, .i, .i, ⟨⟩⟩ ⟨(ob rfl ⟨.aN, .o, ⟨⟩⟩), od, (cF rfl), ⟨⟩⟩)
 rintro _ _ ⟨rW, PC, rfl, rfl, rfl⟩
 replace h := alF
 refine .d (.d ⟨rfl, ⟨rfl, _, rfl, (sE h (fun alI h => ?_) (fun alI h => ?_))⟩⟩)
 refine .float [(0, true), (1, true), (2, true), (3, true), (4, true), (5, true), (6, true), (7, true), (8, true), (9, false)] atD ?_
 refine ⟨rfl, ⟨rfl, _, rfl, (bk h fun C3 Uy h => ⟨ay Uy, C3, az Uy, (bk h fun C4 Uz h => ⟨ay Uz, C4, az Uz, ⟨rfl, ⟨rfl, _, rfl, (bk h fun C5 UA h => ⟨aA UA, _, (ax UA).trans (ae.au C5), (bk h fun zt alJ h => (cH (alu _ _ _ _ alJ _ _) [0, 1] ⟨cw, ov, ⟨⟩⟩ (fun Gw => .aU []) (fun Gw => [.row g1000 2 1 51 (fun _ => [aN Gw 0 g1000, .own 1 Gw 0 zt.af.aq.length]), .row Gw 1 zt.af.aq.length 5 (row cB zt.af.aq), .row 0 4 1 29 (fun _ => fy.lit)]) fun Gw => ⟨row cS ([[32]] : List ar), aC cS ([[32]] : List ar) rfl (aB rfl), (bk h fun zu alK h => (cm (aw (g1000 := g1000) (g1001 := Gw) (g1002 := 0) alK) [0, 1, 3] ⟨cw, ov, ov, ⟨⟩⟩ ?_))⟩))⟩)⟩⟩⟩)⟩)⟩⟩
 rintro _ _ ⟨PF, apO, rfl, rfl⟩
 exact ⟨.aU [], [.row g1000 2 1 51 (fun _ => [aN PF 0 g1000, .own 1 PF 0 zu.af.aq.length]), .row PF 1 zu.af.aq.length 5 (row cB zu.af.aq), .row 0 4 1 29 (fun _ => fy.lit), .row apO 1 ([[32]] : List ar).length 9 (row cS ([[32]] : List ar))], rfl, atu, (lg (Mb _ _ _ _ h PF rfl rfl) (tk [0, 1] ⟨.p, .l, .i, .i, ⟨⟩⟩ ⟨(ob rfl ⟨.aN, .o, ⟨⟩⟩), od, ⟨⟩⟩))⟩
 refine ⟨rfl, _, rfl, (bk h fun zw alL h => (cH (alv _ _ _ alL _ _) [0, 1] ⟨cw, ov, ⟨⟩⟩ (fun Gx => .aU []) (fun Gx => [.row g1000 2 1 51 (fun _ => [aN Gx 0 g1000, .own 1 Gx 0 zw.af.aq.length]), .row Gx 1 zw.af.aq.length 5 (row cB zw.af.aq), .row 0 4 1 29 (fun _ => fy.lit)]) fun Gx => ⟨row cS ([[32]] : List ar), aC cS ([[32]] : List ar) rfl (aB rfl), (bk h fun zx alM h => (cm (aw (g1000 := g1000) (g1001 := Gx) (g1002 := 0) alM) [0, 1, 3] ⟨cw, ov, ov, ⟨⟩⟩ ?_))⟩))⟩
 rintro _ _ ⟨PG, apP, rfl, rfl⟩
 exact ⟨.aU [], [.row g1000 2 1 51 (fun _ => [aN PG 0 g1000, .own 1 PG 0 zx.af.aq.length]), .row PG 1 zx.af.aq.length 5 (row cB zx.af.aq), .row 0 4 1 29 (fun _ => fy.lit), .row apP 1 ([[32]] : List ar).length 9 (row cS ([[32]] : List ar))], rfl, atu, (lg (Mb _ _ _ _ h PG rfl rfl) (tk [0, 1] ⟨.p, .l, .i, .i, ⟨⟩⟩ ⟨(ob rfl ⟨.aN, .o, ⟨⟩⟩), od, ⟨⟩⟩))⟩
 exact ct ⟨_, Bx, si h, rfl, rfl⟩ (tk [0, 1] ⟨.p, ⟨⟩⟩ ⟨(ob rfl ⟨.aN, .o, ⟨⟩⟩), od, ⟨⟩⟩)
 rintro _ _ ⟨CZ, Ma, rfl, rfl, rfl⟩
 replace h := alp
 refine ⟨row cS ([[125]] : List ar), aC cS ([[125]] : List ar) rfl (aB rfl), (bk h fun LU alN h => (cm (aw (g1000 := g1000) (g1001 := Ma) (g1002 := 0) alN) [0, 1, 2] ⟨cw, ov, ov, ⟨⟩⟩ ?_))⟩
 rintro _ _ ⟨PH, apQ, rfl, rfl⟩
 refine ⟨.aU [], [.row g1000 2 1 51 (fun _ => [aN PH 0 g1000, .own 1 PH 0 LU.af.aq.length]), .row PH 1 LU.af.aq.length 5 (row cB LU.af.aq), .row apQ 1 ([[125]] : List ar).length 9 (row cS ([[125]] : List ar))], rfl, atu, ?_⟩
 obtain rfl := si h
 exact en [0, 1] ⟨PH, rfl, rfl⟩ (.bq ⟨⟩) ⟨(ob rfl ⟨.aN, .o, ⟨⟩⟩), od, ⟨⟩⟩
 intro F0 F1 F2 lu lv hF2 dW gD fW o h
 exact .mk F2 hF2 F1 lv F0 lu dW gD fW o h
 intro _ pc a0 a1 r h g1000 g1001
 refine gd Tryz.func98 ?_
 refine .d (.d ⟨rfl, ⟨rfl, _, rfl, ⟨row cS ([[102, 117, 110, 99, 116, 105, 111, 110, 32], a1.aj] : List ar), aC cS ([[102, 117, 110, 99, 116, 105, 111, 110, 32], a1.aj] : List ar) rfl (aB rfl), (bk h fun LO alO h => (cm (aw (g1000 := g1000) (g1001 := g1001) (g1002 := 0) alO) [0, 1, 3] ⟨cw, ov, ov, ⟨⟩⟩ ?_))⟩⟩⟩)
 rintro _ _ ⟨PI, PJ, rfl, rfl⟩
 refine ⟨.aU [], [.row g1000 2 1 51 (fun _ => [aN PI 0 g1000, .own 1 PI 0 LO.af.aq.length]), .row PI 1 LO.af.aq.length 5 (row cB LO.af.aq), .row 0 4 1 29 (fun _ => a1.lit), .row PJ 1 ([[102, 117, 110, 99, 116, 105, 111, 110, 32], a1.aj] : List ar).length 9 (row cS ([[102, 117, 110, 99, 116, 105, 111, 110, 32], a1.aj] : List ar))], rfl, atu, (.d ⟨rfl, ⟨rfl, _, rfl, (bk h fun LP alP h => (cH (jI (g1000 := g1000) (g1001 := PI) alP) [0, 1] ⟨cw, ov, ⟨⟩⟩ (fun Gy => .aU []) (fun Gy => [.row g1000 2 1 51 (fun _ => [aN Gy 0 g1000, .own 1 Gy 0 LP.af.aq.length]), .row Gy 1 LP.af.aq.length 5 (row cB LP.af.aq), .row 0 4 1 29 (fun _ => a1.lit), .row PJ 1 ([[102, 117, 110, 99, 116, 105, 111, 110, 32], a1.aj] : List ar).length 9 (row cS ([[102, 117, 110, 99, 116, 105, 111, 110, 32], a1.aj] : List ar))]) fun Gy => (.d ⟨row cS ([[32]] : List ar), aC cS ([[32]] : List ar) rfl (aB rfl), (bk h fun LQ alQ h => (cm (aw (g1000 := g1000) (g1001 := Gy) (g1002 := 0) alQ) [0, 1, 4] ⟨cw, ov, ov, ⟨⟩⟩ ?_))⟩)))⟩⟩)⟩
 rintro _ _ ⟨aat, alR, rfl, rfl⟩
 refine ⟨.aU [], [.row g1000 2 1 51 (fun _ => [aN aat 0 g1000, .own 1 aat 0 LQ.af.aq.length]), .row aat 1 LQ.af.aq.length 5 (row cB LQ.af.aq), .row 0 4 1 29 (fun _ => a1.lit), .row PJ 1 ([[102, 117, 110, 99, 116, 105, 111, 110, 32], a1.aj] : List ar).length 9 (row cS ([[102, 117, 110, 99, 116, 105, 111, 110, 32], a1.aj] : List ar)), .row alR 1 ([[32]] : List ar).length 9 (row cS ([[32]] : List ar))], rfl, atu, ⟨rfl, ⟨rfl, _, rfl, ⟨rfl, ⟨rfl, _, rfl, (bk h fun Z2 UB h => ⟨aA UB, _, (ax UB).trans (ae.au Z2), (bk h fun LR alS h => (cH (pc _ _ _ alS _ _) [0, 1] ⟨cw, ov, ⟨⟩⟩ (fun Gz => .aU []) (fun Gz => [.row g1000 2 1 51 (fun _ => [aN Gz 0 g1000, .own 1 Gz 0 LR.af.aq.length]), .row Gz 1 LR.af.aq.length 5 (row cB LR.af.aq), .row 0 4 1 29 (fun _ => a1.lit), .row PJ 1 ([[102, 117, 110, 99, 116, 105, 111, 110, 32], a1.aj] : List ar).length 9 (row cS ([[102, 117, 110, 99, 116, 105, 111, 110, 32], a1.aj] : List ar)), .row alR 1 ([[32]] : List ar).length 9 (row cS ([[32]] : List ar))]) fun Gz => ?_))⟩)⟩⟩⟩⟩⟩
 obtain rfl := si h
 exact en [0, 1] ⟨Gz, rfl, rfl⟩ (.bq ⟨⟩) ⟨(ob rfl ⟨.aN, .o, ⟨⟩⟩), od, ⟨⟩⟩
 intro _ km a0 a1 a2 r h g1000 g1001
 refine gd Tryz.func95 ?_
 refine .d (.d ⟨row cS ([a1] : List ar), aC cS ([a1] : List ar) rfl (aB rfl), (bk h fun AO JN h => (cm (aw (g1000 := g1000) (g1001 := g1001) (g1002 := 0) JN) [0, 1, 3] ⟨cw, ov, ov, ⟨⟩⟩ ?_))⟩)
 rintro _ _ ⟨aau, aav, rfl, rfl⟩
 refine ⟨.aU [], [.row g1000 2 1 51 (fun _ => [aN aau 0 g1000, .own 1 aau 0 AO.af.aq.length]), .row aau 1 AO.af.aq.length 5 (row cB AO.af.aq), .row 0 4 1 29 (fun _ => a2.lit), .row aav 1 ([a1] : List ar).length 9 (row cS ([a1] : List ar))], rfl, atu, (.d ⟨rfl, _, rfl, (bk h fun Ld alT h => (cH (km _ _ _ _ alT _ _) [0, 1] ⟨cw, ov, ⟨⟩⟩ (fun GA => .aU []) (fun GA => [.row g1000 2 1 51 (fun _ => [aN GA 0 g1000, .own 1 GA 0 Ld.af.aq.length]), .row GA 1 Ld.af.aq.length 5 (row cB Ld.af.aq), .row 0 4 1 29 (fun _ => a2.lit), .row aav 1 ([a1] : List ar).length 9 (row cS ([a1] : List ar))]) fun GA => ⟨row cS ([[59]] : List ar), aC cS ([[59]] : List ar) rfl (aB rfl), (bk h fun Le alU h => (cm (aw (g1000 := g1000) (g1001 := GA) (g1002 := 0) alU) [0, 1, 4] ⟨cw, ov, ov, ⟨⟩⟩ ?_))⟩))⟩)⟩
 rintro _ _ ⟨PK, apR, rfl, rfl⟩
 refine ⟨.aU [], [.row g1000 2 1 51 (fun _ => [aN PK 0 g1000, .own 1 PK 0 Le.af.aq.length]), .row PK 1 Le.af.aq.length 5 (row cB Le.af.aq), .row 0 4 1 29 (fun _ => a2.lit), .row aav 1 ([a1] : List ar).length 9 (row cS ([a1] : List ar)), .row apR 1 ([[59]] : List ar).length 9 (row cS ([[59]] : List ar))], rfl, atu, ?_⟩
 obtain rfl := si h
 exact en [0, 1] ⟨PK, rfl, rfl⟩ (.bq ⟨⟩) ⟨(ob rfl ⟨.aN, .o, ⟨⟩⟩), od, ⟨⟩⟩
 intro _ _ pc alV a0 a1 r h g1000 g1001
 refine gd Tryz.func97 ?_
 refine .d (.d ⟨row cS ([[116, 114, 121, 32]] : List ar), aC cS ([[116, 114, 121, 32]] : List ar) rfl (aB rfl), (bk h fun LN alW h => (cm (aw (g1000 := g1000) (g1001 := g1001) (g1002 := 0) alW) [0, 1, 3] ⟨cw, ov, ov, ⟨⟩⟩ ?_))⟩)
 rintro _ _ ⟨aaw, alX, rfl, rfl⟩
 refine ⟨.aU [], [.row g1000 2 1 51 (fun _ => [aN aaw 0 g1000, .own 1 aaw 0 LN.af.aq.length]), .row aaw 1 LN.af.aq.length 5 (row cB LN.af.aq), .row 0 4 1 29 (fun _ => a1.lit), .row alX 1 ([[116, 114, 121, 32]] : List ar).length 9 (row cS ([[116, 114, 121, 32]] : List ar))], rfl, atu, (.d ⟨rfl, ⟨rfl, _, rfl, (bk h fun Z1 AH h => ⟨aA AH, _, (ax AH).trans (ae.au Z1), (bk h fun yE Jg h => (cH (pc _ _ _ Jg _ _) [0, 1] ⟨cw, ov, ⟨⟩⟩ (fun GB => .aU []) (fun GB => [.row g1000 2 1 51 (fun _ => [aN GB 0 g1000, .own 1 GB 0 yE.af.aq.length]), .row GB 1 yE.af.aq.length 5 (row cB yE.af.aq), .row 0 4 1 29 (fun _ => a1.lit), .row alX 1 ([[116, 114, 121, 32]] : List ar).length 9 (row cS ([[116, 114, 121, 32]] : List ar))]) fun GB => (.d ⟨rfl, ⟨rfl, _, rfl, (bk h fun fx Mc h => ⟨trivial, gU Mc, fx.length, row ae.cells fx, fK Mc, fL Mc, ?_⟩)⟩⟩)))⟩)⟩⟩)⟩
 have alY := alV _ _ _ _ h
 refine le (ot (motive := fun alZ hU gO al0 => ∀ C7 : Nat, fx = alZ → r = al0 → aG _ _ [(0, .aM 0 g1000 0 0), (17, sl 4 ae.cells fx), (18, .int .i64 (fx.length : Int)), (19, .int .i64 gO)] [.row g1000 2 1 51 (fun _ => [aN C7 0 g1000, .own 1 C7 0 hU.length]), .row C7 1 hU.length 5 (row cB hU)]) ?_ fx yE.af.aq 0 r alY GB rfl rfl) (tk [0, 1] ⟨.p, .l, .i, .i, ⟨⟩⟩ ⟨(ob rfl ⟨.aN, .o, ⟨⟩⟩), od, ⟨⟩⟩)
 intro _ UC _ _ alZ hU gO al0 h UD C7 PL al1
 subst PL
 subst al1
 refine aG.round (.d (.d (sD h (fun al2 h => ?_) (fun al2 h => ?_))))
 refine .d (.d (bk h fun jl UE h => ⟨aA UE, _, (ax UE).trans (ae.au jl), ⟨rfl, _, fun _ => [.int .i64 jl.ai, .int .i64 jl.aD, .str jl.aj, sl 4 ae.cells jl.ah], rfl, bX rfl, (.d ⟨rfl, ⟨rfl, _, rfl, (sE h (fun al3 h => ?_) (fun al3 h => ?_))⟩⟩)⟩⟩))
 refine .d (.float [(0, true), (1, true), (2, true), (3, true), (4, true), (5, true), (6, true), (7, true), (8, false), (9, false)] atD ?_)
 refine ⟨rfl, ⟨rfl, _, rfl, ⟨rfl, ⟨rfl, _, rfl, (bk h fun sZ UF h => ⟨aA UF, _, (ax UF).trans (ae.au sZ), ⟨row cS ([[32, 99, 97, 116, 99, 104, 32, 40], jl.aj, [32, 36], sZ.aj, [41, 32]] : List ar), aC cS ([[32, 99, 97, 116, 99, 104, 32, 40], jl.aj, [32, 36], sZ.aj, [41, 32]] : List ar) rfl (aB rfl), (bk h fun zm al4 h => (cm (aw (g1000 := g1000) (g1001 := C7) (g1002 := 0) al4) [0, 1, 3] ⟨cw, ov, ov, ⟨⟩⟩ ?_))⟩⟩)⟩⟩⟩⟩
 rintro _ _ ⟨aax, al5, rfl, rfl⟩
 exact ⟨.aU [], [.row g1000 2 1 51 (fun _ => [aN aax 0 g1000, .own 1 aax 0 zm.af.aq.length]), .row aax 1 zm.af.aq.length 5 (row cB zm.af.aq), .row 0 4 1 29 (fun _ => jl.lit), .row al5 1 ([[32, 99, 97, 116, 99, 104, 32, 40], jl.aj, [32, 36], sZ.aj, [41, 32]] : List ar).length 9 (row cS ([[32, 99, 97, 116, 99, 104, 32, 40], jl.aj, [32, 36], sZ.aj, [41, 32]] : List ar))], rfl, atu, ⟨rfl, ⟨rfl, _, rfl, (bk h fun C1 UG h => ⟨aA UG, _, (ax UG).trans (ae.au C1), (bk h fun zn al6 h => (cH (UC _ _ _ al6 _ _) [0, 1] ⟨cw, ov, ⟨⟩⟩ (fun GC => .aU []) (fun GC => [.row g1000 2 1 51 (fun _ => [aN GC 0 g1000, .own 1 GC 0 zn.af.aq.length]), .row GC 1 zn.af.aq.length 5 (row cB zn.af.aq), .row 0 4 1 29 (fun _ => jl.lit), .row al5 1 ([[32, 99, 97, 116, 99, 104, 32, 40], jl.aj, [32, 36], sZ.aj, [41, 32]] : List ar).length 9 (row cS ([[32, 99, 97, 116, 99, 104, 32, 40], jl.aj, [32, 36], sZ.aj, [41, 32]] : List ar))]) fun GC => (lg (UD _ _ _ _ h GC rfl rfl) (tk [0, 1] ⟨.p, .l, .i, .i, ⟨⟩⟩ ⟨(ob rfl ⟨.aN, .o, ⟨⟩⟩), od, ⟨⟩⟩))))⟩)⟩⟩⟩
 refine .d ⟨row cS ([[32, 102, 105, 110, 97, 108, 108, 121, 32]] : List ar), aC cS ([[32, 102, 105, 110, 97, 108, 108, 121, 32]] : List ar) rfl (aB rfl), (bk h fun zo al7 h => (cm (aw (g1000 := g1000) (g1001 := C7) (g1002 := 0) al7) [0, 1, 3] ⟨cw, ov, ov, ⟨⟩⟩ ?_))⟩
 rintro _ _ ⟨aay, al8, rfl, rfl⟩
 exact ⟨.aU [], [.row g1000 2 1 51 (fun _ => [aN aay 0 g1000, .own 1 aay 0 zo.af.aq.length]), .row aay 1 zo.af.aq.length 5 (row cB zo.af.aq), .row 0 4 1 29 (fun _ => jl.lit), .row al8 1 ([[32, 102, 105, 110, 97, 108, 108, 121, 32]] : List ar).length 9 (row cS ([[32, 102, 105, 110, 97, 108, 108, 121, 32]] : List ar))], rfl, atu, ⟨rfl, ⟨rfl, _, rfl, (bk h fun C2 UH h => ⟨aA UH, _, (ax UH).trans (ae.au C2), (bk h fun zp al9 h => (cH (UC _ _ _ al9 _ _) [0, 1] ⟨cw, ov, ⟨⟩⟩ (fun GD => .aU []) (fun GD => [.row g1000 2 1 51 (fun _ => [aN GD 0 g1000, .own 1 GD 0 zp.af.aq.length]), .row GD 1 zp.af.aq.length 5 (row cB zp.af.aq), .row 0 4 1 29 (fun _ => jl.lit), .row al8 1 ([[32, 102, 105, 110, 97, 108, 108, 121, 32]] : List ar).length 9 (row cS ([[32, 102, 105, 110, 97, 108, 108, 121, 32]] : List ar))]) fun GD => (lg (UD _ _ _ _ h GD rfl rfl) (tk [0, 1] ⟨.p, .l, .i, .i, ⟨⟩⟩ ⟨(ob rfl ⟨.aN, .o, ⟨⟩⟩), od, ⟨⟩⟩))))⟩)⟩⟩⟩
 obtain rfl := si h
 exact en [0, 1] ⟨C7, rfl, rfl⟩ (.bq ⟨⟩) ⟨(ob rfl ⟨.aN, .o, ⟨⟩⟩), od, ⟨⟩⟩
 intro F0 F1 lu lv fx hU gO o h
 exact .mk F0 lu F1 lv fx hU gO o h
 intro _ ama a0 a1 r h g1000 g1001
 refine gd Tryz.func156 ?_
 refine .d ⟨row cS ([[40]] : List ar), aC cS ([[40]] : List ar) rfl (aB rfl), (bk h fun FA amc h => (cm (aw (g1000 := g1000) (g1001 := g1001) (g1002 := 0) amc) [0, 1, 2] ⟨cw, ov, ov, ⟨⟩⟩ ?_))⟩
 rintro _ _ ⟨PM, apS, rfl, rfl⟩
 refine ⟨.aU [], [.row g1000 2 1 51 (fun _ => [aN PM 0 g1000, .own 1 PM 0 FA.af.aq.length]), .row PM 1 FA.af.aq.length 5 (row cB FA.af.aq), .row apS 1 ([[40]] : List ar).length 9 (row cS ([[40]] : List ar))], rfl, atu, ?_⟩
 obtain ⟨aaz, amd, ame⟩ := bd h
 replace h := amd
 refine .cut (fun σ η => ∃ CQ, ∃ Md : Nat, CQ = aaz ∧ σ = [(0, .aM 0 g1000 0 0)] ∧ η = [.row g1000 2 1 51 (fun _ => [aN Md 0 g1000, .own 1 Md 0 CQ.length]), .row Md 1 CQ.length 5 (row cB CQ)]) ?_ ?_
 refine .d ?_
 have amf := ama _ _ _ _ h
 refine le (nK (motive := fun amg hI gq amh => ∀ GF : Nat, a1 = amg → aaz = amh → aG _ _ [(0, .aM 0 g1000 0 0), (9, sl 4 ae.cells a1), (10, .int .i64 (a1.length : Int)), (11, .int .i64 gq)] [.row g1000 2 1 51 (fun _ => [aN GF 0 g1000, .own 1 GF 0 hI.length]), .row GF 1 hI.length 5 (row cB hI)]) ?_ a1 FA.af.aq 0 aaz amf PM rfl rfl) (tk [0, 1] ⟨.p, .l, .i, .i, ⟨⟩⟩ ⟨(ob rfl ⟨.aN, .o, ⟨⟩⟩), od, ⟨⟩⟩)
 intro _ UI _ _ amg hI gq amh h UJ GF PN ami
 subst PN
 subst ami
 refine aG.round (.d (.d (sD h (fun JG h => ?_) (fun JG h => ?_))))
 refine .d (.d (bk h fun oZ UK h => ⟨aA UK, _, (ax UK).trans (ae.au oZ), ⟨rfl, _, fun _ => [.int .i64 oZ.ai, .int .i64 oZ.aD, .str oZ.aj, sl 4 ae.cells oZ.ah], rfl, bX rfl, (.d (.d (sD h (fun JH h => ?_) (fun JH h => ?_))))⟩⟩))
 refine ⟨row cS ([[44, 32]] : List ar), aC cS ([[44, 32]] : List ar) rfl (aB rfl), (bk h fun zf amj h => (cm (aw (g1000 := g1000) (g1001 := GF) (g1002 := 0) amj) [0, 1, 3] ⟨cw, ov, ov, ⟨⟩⟩ ?_))⟩
 rintro _ _ ⟨aaA, amk, rfl, rfl⟩
 exact ⟨.aU [], [.row g1000 2 1 51 (fun _ => [aN aaA 0 g1000, .own 1 aaA 0 zf.af.aq.length]), .row aaA 1 zf.af.aq.length 5 (row cB zf.af.aq), .row 0 4 1 29 (fun _ => oZ.lit), .row amk 1 ([[44, 32]] : List ar).length 9 (row cS ([[44, 32]] : List ar))], rfl, atu, ⟨rfl, _, rfl, (bk h fun zg aml h => (cH (UI _ _ _ _ aml _ _) [0, 1] ⟨cw, ov, ⟨⟩⟩ (fun GG => .aU []) (fun GG => [.row g1000 2 1 51 (fun _ => [aN GG 0 g1000, .own 1 GG 0 zg.af.aq.length]), .row GG 1 zg.af.aq.length 5 (row cB zg.af.aq), .row 0 4 1 29 (fun _ => oZ.lit), .row amk 1 ([[44, 32]] : List ar).length 9 (row cS ([[44, 32]] : List ar))]) fun GG => (lg (UJ _ _ _ _ h GG rfl rfl) (tk [0, 1] ⟨.p, .l, .i, .i, ⟨⟩⟩ ⟨(ob rfl ⟨.aN, .o, ⟨⟩⟩), od, ⟨⟩⟩))))⟩⟩
 exact ⟨rfl, _, rfl, (bk h fun zh amm h => (cH (UI _ _ _ _ amm _ _) [0, 1] ⟨cw, ov, ⟨⟩⟩ (fun GH => .aU []) (fun GH => [.row g1000 2 1 51 (fun _ => [aN GH 0 g1000, .own 1 GH 0 zh.af.aq.length]), .row GH 1 zh.af.aq.length 5 (row cB zh.af.aq), .row 0 4 1 29 (fun _ => oZ.lit)]) fun GH => (lg (UJ _ _ _ _ h GH rfl rfl) (tk [0, 1] ⟨.p, .l, .i, .i, ⟨⟩⟩ ⟨(ob rfl ⟨.aN, .o, ⟨⟩⟩), od, ⟨⟩⟩))))⟩
 exact ct ⟨_, GF, si h, rfl, rfl⟩ (tk [0, 1] ⟨.p, ⟨⟩⟩ ⟨(ob rfl ⟨.aN, .o, ⟨⟩⟩), od, ⟨⟩⟩)
 rintro _ _ ⟨CQ, Md, rfl, rfl, rfl⟩
 replace h := ame
 refine ⟨row cS ([[41]] : List ar), aC cS ([[41]] : List ar) rfl (aB rfl), (bk h fun K8 amn h => (cm (aw (g1000 := g1000) (g1001 := Md) (g1002 := 0) amn) [0, 1, 2] ⟨cw, ov, ov, ⟨⟩⟩ ?_))⟩
 rintro _ _ ⟨PO, apT, rfl, rfl⟩
 refine ⟨.aU [], [.row g1000 2 1 51 (fun _ => [aN PO 0 g1000, .own 1 PO 0 K8.af.aq.length]), .row PO 1 K8.af.aq.length 5 (row cB K8.af.aq), .row apT 1 ([[41]] : List ar).length 9 (row cS ([[41]] : List ar))], rfl, atu, ?_⟩
 obtain rfl := si h
 exact en [0, 1] ⟨PO, rfl, rfl⟩ (.bq ⟨⟩) ⟨(ob rfl ⟨.aN, .o, ⟨⟩⟩), od, ⟨⟩⟩
 intro F0 F1 lu lv a1 hI gq o h
 exact .mk F0 lu F1 lv a1 hI gq o h
 intro _ km a0 a1 a2 a3 a4 r h g1000 g1001
 refine gd Tryz.func154 ?_
 refine .d (.d ⟨rfl, ⟨rfl, _, rfl, (bk h fun ZM Aw h => ⟨aA Aw, _, (ax Aw).trans (ae.au ZM), (bk h fun Aq I8 h => (cH (km _ _ _ _ I8 _ _) [0, 1] ⟨cw, ov, ⟨⟩⟩ (fun GI => .aU []) (fun GI => [.row g1000 2 1 51 (fun _ => [aN GI 0 g1000, .own 1 GI 0 Aq.af.aq.length]), .row GI 1 Aq.af.aq.length 5 (row cB Aq.af.aq), .row 0 4 1 29 (fun _ => a1.lit)]) fun GI => (.d ⟨row cS ([a3] : List ar), aC cS ([a3] : List ar) rfl (aB rfl), (bk h fun v210 amo h => (cm (aw (g1000 := g1000) (g1001 := GI) (g1002 := 0) amo) [0, 1, 3] ⟨cw, ov, ov, ⟨⟩⟩ ?_))⟩)))⟩)⟩⟩)
 rintro _ _ ⟨aaB, amp, rfl, rfl⟩
 refine ⟨.aU [], [.row g1000 2 1 51 (fun _ => [aN aaB 0 g1000, .own 1 aaB 0 v210.af.aq.length]), .row aaB 1 v210.af.aq.length 5 (row cB v210.af.aq), .row 0 4 1 29 (fun _ => a1.lit), .row amp 1 ([a3] : List ar).length 9 (row cS ([a3] : List ar))], rfl, atu, ⟨rfl, ⟨rfl, _, rfl, (bk h fun ZN UL h => ⟨aA UL, _, (ax UL).trans (ae.au ZN), (bk h fun K7 amq h => (cH (km _ _ _ _ amq _ _) [0, 1] ⟨cw, ov, ⟨⟩⟩ (fun GJ => .aU []) (fun GJ => [.row g1000 2 1 51 (fun _ => [aN GJ 0 g1000, .own 1 GJ 0 K7.af.aq.length]), .row GJ 1 K7.af.aq.length 5 (row cB K7.af.aq), .row 0 4 1 29 (fun _ => a1.lit), .row amp 1 ([a3] : List ar).length 9 (row cS ([a3] : List ar))]) fun GJ => ?_))⟩)⟩⟩⟩
 obtain rfl := si h
 exact en [0, 1] ⟨GJ, rfl, rfl⟩ (.bq ⟨⟩) ⟨(ob rfl ⟨.aN, .o, ⟨⟩⟩), od, ⟨⟩⟩
 intro _ amr a0 a1 r h g1000 g1001
 refine gd Tryz.func153 ?_
 refine .d (.d ⟨row cS ([[91]] : List ar), aC cS ([[91]] : List ar) rfl (aB rfl), (bk h fun yx H9 h => (cm (aw (g1000 := g1000) (g1001 := g1001) (g1002 := 0) H9) [0, 1, 3] ⟨cw, ov, ov, ⟨⟩⟩ ?_))⟩)
 rintro _ _ ⟨PQ, apU, rfl, rfl⟩
 refine ⟨.aU [], [.row g1000 2 1 51 (fun _ => [aN PQ 0 g1000, .own 1 PQ 0 yx.af.aq.length]), .row PQ 1 yx.af.aq.length 5 (row cB yx.af.aq), .row 0 4 1 29 (fun _ => a1.lit), .row apU 1 ([[91]] : List ar).length 9 (row cS ([[91]] : List ar))], rfl, atu, ?_⟩
 obtain ⟨aaC, ams, amt⟩ := bd h
 replace h := ams
 refine .cut (fun σ η => ∃ CR, ∃ Me : Nat, CR = aaC ∧ σ = [(0, .aM 0 g1000 0 0)] ∧ η = [.row g1000 2 1 51 (fun _ => [aN Me 0 g1000, .own 1 Me 0 CR.length]), .row Me 1 CR.length 5 (row cB CR)]) ?_ ?_
 refine .d ⟨rfl, ⟨rfl, _, rfl, ?_⟩⟩
 have amu := amr _ _ _ _ h
 refine le (nL (motive := fun amv hJ gl amw => ∀ C8 : Nat, a1 = amv → aaC = amw → aG _ _ [(0, .aM 0 g1000 0 0), (10, sl 4 ae.cells a1.ah), (11, .int .i64 (a1.ah.length : Int)), (12, .int .i64 gl)] [.row g1000 2 1 51 (fun _ => [aN C8 0 g1000, .own 1 C8 0 hJ.length]), .row C8 1 hJ.length 5 (row cB hJ)]) ?_ a1 yx.af.aq 0 aaC amu PQ rfl rfl) (tk [0, 1] ⟨.p, .l, .i, .i, ⟨⟩⟩ ⟨(ob rfl ⟨.aN, .o, ⟨⟩⟩), od, ⟨⟩⟩)
 intro _ amx _ amy _ _ amv hJ gl amw h UM C8 PR amz
 subst PR
 subst amz
 refine aG.round (.d (.d (sD h (fun Ah h => ?_) (fun Ah h => ?_))))
 refine .d (.d (bk h fun kZ rj h => ⟨aA rj, _, (ax rj).trans (ae.au kZ), ⟨rfl, _, fun _ => [.int .i64 kZ.ai, .int .i64 kZ.aD, .str kZ.aj, sl 4 ae.cells kZ.ah], rfl, bX rfl, ?_⟩⟩))
 obtain ⟨apV, amA, amB⟩ := bd h
 replace h := amA
 refine .cut (fun σ η => ∃ rU, ∃ PT : Nat, rU = apV ∧ σ = [(0, .aM 0 g1000 0 0), (5, .aM 2 0 0 0), (10, sl 4 ae.cells a1.ah), (11, .int .i64 (a1.ah.length : Int)), (12, .int .i64 gl)] ∧ η = [.row g1000 2 1 51 (fun _ => [aN PT 0 g1000, .own 1 PT 0 rU.length]), .row PT 1 rU.length 5 (row cB rU), .row 0 4 1 29 (fun _ => kZ.lit)]) ?_ ?_
 refine .d (sD h (fun amC h => ?_) (fun amC h => ?_))
 refine ⟨row cS ([[44, 32]] : List ar), aC cS ([[44, 32]] : List ar) rfl (aB rfl), (bk h fun tZ Ib h => (cm (aw (g1000 := g1000) (g1001 := C8) (g1002 := 0) Ib) [0, 1, 3] ⟨cw, ov, ov, ⟨⟩⟩ ?_))⟩
 rintro _ _ ⟨PU, apW, rfl, rfl⟩
 exact ⟨.aU [], [.row g1000 2 1 51 (fun _ => [aN PU 0 g1000, .own 1 PU 0 tZ.af.aq.length]), .row PU 1 tZ.af.aq.length 5 (row cB tZ.af.aq), .row 0 4 1 29 (fun _ => kZ.lit), .row apW 1 ([[44, 32]] : List ar).length 9 (row cS ([[44, 32]] : List ar))], rfl, atu, (ct ⟨_, PU, si h, rfl, rfl⟩ (tk [0, 1, 2] ⟨.p, .p, .l, .i, .i, ⟨⟩⟩ ⟨(ob rfl ⟨.aN, .o, ⟨⟩⟩), od, (cF rfl), ⟨⟩⟩))⟩
 exact ct ⟨_, C8, si h, rfl, rfl⟩ (tk [0, 1, 2] ⟨.p, .p, .l, .i, .i, ⟨⟩⟩ ⟨(ob rfl ⟨.aN, .o, ⟨⟩⟩), od, (cF rfl), ⟨⟩⟩)
 rintro _ _ ⟨rU, PT, rfl, rfl, rfl⟩
 replace h := amB
 refine .d ⟨rfl, ⟨rfl, _, rfl, (sE h (fun amD h => ?_) (fun amD h => ?_))⟩⟩
 exact ⟨rfl, _, rfl, (bk h fun zi amE h => (cH (amy _ _ _ _ _ _ amE _ _) [0, 1] ⟨cw, ov, ⟨⟩⟩ (fun GK => .aU []) (fun GK => [.row g1000 2 1 51 (fun _ => [aN GK 0 g1000, .own 1 GK 0 zi.af.aq.length]), .row GK 1 zi.af.aq.length 5 (row cB zi.af.aq), .row 0 4 1 29 (fun _ => kZ.lit)]) fun GK => (lg (UM _ _ _ _ h GK rfl rfl) (tk [0, 1] ⟨.p, .l, .i, .i, ⟨⟩⟩ ⟨(ob rfl ⟨.aN, .o, ⟨⟩⟩), od, ⟨⟩⟩))))⟩
 exact ⟨rfl, ⟨rfl, _, rfl, (bk h fun C0 UN h => ⟨aA UN, _, (ax UN).trans (ae.au C0), (bk h fun zj amF h => (cH (amx _ _ _ _ amF _ _) [0, 1] ⟨cw, ov, ⟨⟩⟩ (fun GL => .aU []) (fun GL => [.row g1000 2 1 51 (fun _ => [aN GL 0 g1000, .own 1 GL 0 zj.af.aq.length]), .row GL 1 zj.af.aq.length 5 (row cB zj.af.aq), .row 0 4 1 29 (fun _ => kZ.lit)]) fun GL => (lg (UM _ _ _ _ h GL rfl rfl) (tk [0, 1] ⟨.p, .l, .i, .i, ⟨⟩⟩ ⟨(ob rfl ⟨.aN, .o, ⟨⟩⟩), od, ⟨⟩⟩))))⟩)⟩⟩
 exact ct ⟨_, C8, si h, rfl, rfl⟩ (tk [0, 1] ⟨.p, ⟨⟩⟩ ⟨(ob rfl ⟨.aN, .o, ⟨⟩⟩), od, ⟨⟩⟩)
 rintro _ _ ⟨CR, Me, rfl, rfl, rfl⟩
 replace h := amt
 refine ⟨row cS ([[93]] : List ar), aC cS ([[93]] : List ar) rfl (aB rfl), (bk h fun AM JL h => (cm (aw (g1000 := g1000) (g1001 := Me) (g1002 := 0) JL) [0, 1, 2] ⟨cw, ov, ov, ⟨⟩⟩ ?_))⟩
 rintro _ _ ⟨PW, apX, rfl, rfl⟩
 refine ⟨.aU [], [.row g1000 2 1 51 (fun _ => [aN PW 0 g1000, .own 1 PW 0 AM.af.aq.length]), .row PW 1 AM.af.aq.length 5 (row cB AM.af.aq), .row apX 1 ([[93]] : List ar).length 9 (row cS ([[93]] : List ar))], rfl, atu, ?_⟩
 obtain rfl := si h
 exact en [0, 1] ⟨PW, rfl, rfl⟩ (.bq ⟨⟩) ⟨(ob rfl ⟨.aN, .o, ⟨⟩⟩), od, ⟨⟩⟩
 intro F0 F1 F2 lu lv hF2 a1 hJ gl o h
 exact .mk F0 lu F1 lv F2 hF2 a1 hJ gl o h
theorem s7 {a0 : av} {a1 : ae} {a2 : Int} {r : av} {g1000 : Nat} {g1001 : Nat} (h : aJ a0 a1 a2 = some r) : ACall Tryz.prog 46 [.aM 0 g1000 0 0, .agg a1.lit, .int .i64 a2] [.row g1000 2 1 51 (fun _ => [aN g1001 0 g1000, .own 1 g1001 0 a0.af.aq.length]), .row g1001 1 a0.af.aq.length 5 (row cB a0.af.aq)] (fun res h => ∃ G1 : Nat, res = .aU [] ∧ h = [.row g1000 2 1 51 (fun _ => [aN G1 0 g1000, .own 1 G1 0 r.af.aq.length]), .row G1 1 r.af.aq.length 5 (row cB r.af.aq)]) := qE.1 a0 a1 a2 r h g1000 g1001
def jv (a0 : ae) : Option (ar) :=
 lB a0 >>= fun v1 =>
 (if v1 = true then
 aJ (av.mk (aF.mk () ([] : List UInt8))) a0 1 >>= fun v4 =>
 eF v4.af >>= fun (v7, v8) =>
 some v7
 else
 some [])
theorem u7 {a0 : ae} {r : ar} (h : jv a0 = some r) : ACall Tryz.prog 16 [.agg a0.lit] [] (fun res h => res = .str r ∧ h = []) := by
 refine gd Tryz.func16 ?_
 unfold jv at h
 refine .d (.d (.d ⟨rfl, _, rfl, (bk h fun v1 lx h => (aS (AS lx) (l8 h (fun ow h => ?_) (fun ow h => ?_))))⟩))
 exact .d (eS h)
 refine .d ⟨rfl, _, fun _ => [.dt, .bf], rfl, bX rfl, (.d ⟨rfl, _, rfl, (pcG 1 (h2 := [.row 0 4 1 29 (fun _ => a0.lit), .row 0 2 1 51 (fun _ => [aN 0 1 0, .own 2 0 0 ([] : List UInt8).length]), .row 0 1 ([] : List UInt8).length 5 (row cB ([] : List UInt8))]) (bk h fun v4 tV h => (cH (s7 (g1000 := 0) (g1001 := 0) tV) [1, 2] ⟨cw, ov, ⟨⟩⟩ (fun g6 => .aU []) (fun g6 => [.row 0 4 1 29 (fun _ => a0.lit), .row 0 2 1 51 (fun _ => [aN g6 1 0, .own 2 g6 0 v4.af.aq.length]), .row g6 1 v4.af.aq.length 5 (row cB v4.af.aq)]) fun g6 => (.d ⟨rfl, ?_⟩))))⟩)⟩
 obtain ⟨⟨v7, v8⟩, hv9, h⟩ := bd h
 refine cm (mR (g1000 := 0) (g1001 := g6) hv9) [1, 2] ⟨cw, ov, ⟨⟩⟩ ?_
 rintro _ _ ⟨rfl, rfl⟩
 exact ⟨.str v7, [.row 0 4 1 29 (fun _ => a0.lit), .dead, .dead], rfl, atu, (eS h)⟩
end Go.Am
