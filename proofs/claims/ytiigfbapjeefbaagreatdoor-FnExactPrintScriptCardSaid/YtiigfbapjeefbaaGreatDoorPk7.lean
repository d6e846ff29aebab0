/- Texts of the proof, joined and shortened. -/
import Derived.Test.YtiigfbapjeefbaaGreatDoorPk6
set_option linter.unusedVariables false
set_option linter.unusedSimpArgs false
set_option maxRecDepth 100000
namespace Go.Am
open Go Go.RowKit Go.Proofs
def eu (a1 : List aq) (l2 : List UInt8) (y3 : Int) : Option (av) :=
 (if y3 < (a1.length : Int) then
 idx a1 y3 >>= fun x7 =>
 eN (aE.mk () l2) x7 >>= fun (v9, v10, v11) =>
 eu a1 v11.ao (aS (y3 + 1))
 else
 some (av.mk (aE.mk () l2)))
partial_fixpoint
def ak (a0 : av) (a1 : List aq) : Option (av) :=
 eu a1 a0.af.ao 0
theorem aw {a0 : av} {a1 : List aq} {r : av} {g1000 : Nat} {g1001 : Nat} {g1002 : Nat} (h : ak a0 a1 = some r) : ACall Tryz.prog 48 [.aL 0 g1000 0 0, .own 2 g1002 0 a1.length] [.row g1000 2 1 51 (fun _ => [aM g1001 0 g1000, .own 1 g1001 0 a0.af.ao.length]), .row g1001 1 a0.af.ao.length 5 (row cB a0.af.ao), .row g1002 1 a1.length 9 (row cS a1)] (fun res h => ∃ G1 : Nat, ∃ G2 : Nat, res = .aV [] ∧ h = [.row g1000 2 1 51 (fun _ => [aM G1 0 g1000, .own 1 G1 0 r.af.ao.length]), .row G1 1 r.af.ao.length 5 (row cB r.af.ao), .row G2 1 a1.length 9 (row cS a1)]) := by
 refine gq Tryz.func48 ?_
 unfold ak at h
 refine .d ⟨rfl, ?_⟩
 refine le (eu.partial_correctness a1 (motive := fun l2 y3 o14 => ∀ g1 : Nat, r = o14 → aG _ _ [(0, .aL 0 g1000 0 0), (6, .own 2 g1002 0 a1.length), (7, .int .i64 (a1.length : Int)), (8, .int .i64 y3)] [.row g1000 2 1 51 (fun _ => [aM g1 0 g1000, .own 1 g1 0 l2.length]), .row g1 1 l2.length 5 (row cB l2), .row g1002 1 a1.length 9 (row cS a1)]) ?_ a0.af.ao 0 r h g1001 rfl) (tk [0, 1, 2] ⟨.p, .o, .i, .i, ⟨⟩⟩ ⟨(ob rfl ⟨.aM, .o, ⟨⟩⟩), od, od, ⟨⟩⟩)
 intro F5 ih4 l2 y3 o14 h g1 aqS
 subst aqS
 refine aG.round (.d (.d (sD h (fun vA h => ?_) (fun vA h => ?_))))
 refine .d (.d (bk h fun x7 hx8 h => ⟨rfl, aA hx8, _, asN _, ⟨rfl, _, ((ax hx8).trans rfl), ⟨rfl, ⟨rfl, ?_⟩⟩⟩⟩))
 obtain ⟨⟨v9, v10, v11⟩, D1, h⟩ := bd h
 exact cQ (lA (g1000 := g1000) (g1001 := g1) D1) [0, 1] ⟨cz, ov, ⟨⟩⟩ (fun g13 => .aV [.int .i64 v9, .gv]) (fun g13 => [.row g1000 2 1 51 (fun _ => [aM g13 0 g1000, .own 1 g13 0 v11.ao.length]), .row g13 1 v11.ao.length 5 (row cB v11.ao), .row g1002 1 a1.length 9 (row cS a1)]) fun g13 => (lg (ih4 _ _ _ h g13 rfl) (tk [0, 1, 2] ⟨.p, .o, .i, .i, ⟨⟩⟩ ⟨(ob rfl ⟨.aM, .o, ⟨⟩⟩), od, od, ⟨⟩⟩))
 obtain rfl := si h
 exact en [0, 1, 2] ⟨g1, g1002, rfl, rfl⟩ (.bu ⟨⟩) ⟨(ob rfl ⟨.aM, .o, ⟨⟩⟩), od, od, ⟨⟩⟩
def bS (a1 : List ae) (a2 : Int) (vm : List UInt8) (b12 : Bool) (QC : Int) : Option ((List UInt8)) :=
 (if QC < (a1.length : Int) then
 idx a1 QC >>= fun om =>
 (if om.ai = a2 then
 (
 (if b12 = true then
 some vm
 else
 ak (av.mk (aE.mk () vm)) ([[44, 32]] : List aq) >>= fun Iw =>
 some Iw.af.ao)
 : Option ((List UInt8))) >>= fun VH =>
 (if om.aC = 1 then
 ak (av.mk (aE.mk () VH)) ([[38]] : List aq) >>= fun v31 =>
 ak v31 ([[36], om.aj] : List aq) >>= fun xS =>
 bS a1 a2 xS.af.ao false (aS (QC + 1))
 else
 ak (av.mk (aE.mk () VH)) ([[36], om.aj] : List aq) >>= fun v39 =>
 bS a1 a2 v39.af.ao false (aS (QC + 1)))
 else
 bS a1 a2 vm b12 (aS (QC + 1)))
 else
 some vm)
partial_fixpoint
def dq (a0 : av) (a1 : List ae) (a2 : Int) : Option (av) :=
 ak a0 ([[40]] : List aq) >>= fun v1 =>
 (
 bS a1 a2 v1.af.ao true 0
 : Option ((List UInt8))) >>= fun l6 =>
 ak (av.mk (aE.mk () l6)) ([[41]] : List aq) >>= fun E0 =>
 some E0
theorem j3 {a0 : av} {a1 : List ae} {a2 : Int} {r : av} {g1000 : Nat} {g1001 : Nat} (h : dq a0 a1 a2 = some r) : ACall Tryz.prog 159 [.aL 0 g1000 0 0, sl 4 ae.cells a1, .int .i64 a2] [.row g1000 2 1 51 (fun _ => [aM g1001 0 g1000, .own 1 g1001 0 a0.af.ao.length]), .row g1001 1 a0.af.ao.length 5 (row cB a0.af.ao)] (fun res h => ∃ G1 : Nat, res = .aV [] ∧ h = [.row g1000 2 1 51 (fun _ => [aM G1 0 g1000, .own 1 G1 0 r.af.ao.length]), .row G1 1 r.af.ao.length 5 (row cB r.af.ao)]) := by
 refine gq Tryz.func159 ?_
 unfold dq at h
 refine .d ⟨row cS ([[40]] : List aq), aD cS ([[40]] : List aq) rfl (aB rfl), (bk h fun v1 mq h => (cp (aw (g1000 := g1000) (g1001 := g1001) (g1002 := 0) mq) [0, 1, 2] ⟨cz, ov, ov, ⟨⟩⟩ ?_))⟩
 rintro _ _ ⟨g3, g4, rfl, rfl⟩
 refine ⟨.aV [], [.row g1000 2 1 51 (fun _ => [aM g3 0 g1000, .own 1 g3 0 v1.af.ao.length]), .row g3 1 v1.af.ao.length 5 (row cB v1.af.ao), .row g4 1 ([[40]] : List aq).length 9 (row cS ([[40]] : List aq))], rfl, avi, (.d ?_)⟩
 obtain ⟨o7, XJ, zR⟩ := bd h
 replace h := XJ
 refine .cut (fun σ η => ∃ l6, ∃ g5 : Nat, l6 = o7 ∧ σ = [(0, .aL 0 g1000 0 0)] ∧ η = [.row g1000 2 1 51 (fun _ => [aM g5 0 g1000, .own 1 g5 0 l6.length]), .row g5 1 l6.length 5 (row cB l6)]) ?_ ?_
 refine .d ?_
 refine le (bS.partial_correctness a1 a2 (motive := fun vm b12 QC o43 => ∀ g10 : Nat, o7 = o43 → aG _ _ [(0, .aL 0 g1000 0 0), (2, .int .i64 a2), (6, .bool b12), (12, sl 4 ae.cells a1), (13, .int .i64 (a1.length : Int)), (14, .int .i64 QC)] [.row g1000 2 1 51 (fun _ => [aM g10 0 g1000, .own 1 g10 0 vm.length]), .row g10 1 vm.length 5 (row cB vm)]) ?_ v1.af.ao true 0 o7 h g3 rfl) (tk [0, 1] ⟨.p, .i, .b, .l, .i, .i, ⟨⟩⟩ ⟨(ob rfl ⟨.aM, .o, ⟨⟩⟩), od, ⟨⟩⟩)
 intro F15 abk vm b12 QC o43 h g10 aqT
 subst aqT
 refine aG.round (.d (.d (sD h (fun oN h => ?_) (fun oN h => ?_))))
 refine .d (.d (bk h fun om qy h => ⟨aA qy, _, (ax qy).trans (ae.au om), ⟨rfl, _, fun _ => [.int .i64 om.ai, .int .i64 om.aC, .str om.aj, sl 4 ae.cells om.ah], rfl, bI rfl, (.d (.d ⟨rfl, ⟨rfl, _, rfl, (sN h (fun we h => ?_) (fun we h => ?_))⟩⟩))⟩⟩))
 exact lg (abk _ _ _ _ h g10 rfl) (tk [0, 1] ⟨.p, .i, .b, .l, .i, .i, ⟨⟩⟩ ⟨(ob rfl ⟨.aM, .o, ⟨⟩⟩), od, ⟨⟩⟩)
 obtain ⟨OS, aqU, aqV⟩ := bd h
 replace h := aqU
 refine .cut (fun σ η => ∃ VH, ∃ g20 : Nat, VH = OS ∧ σ = [(0, .aL 0 g1000 0 0), (2, .int .i64 a2), (8, .aL 2 0 0 0), (12, sl 4 ae.cells a1), (13, .int .i64 (a1.length : Int)), (14, .int .i64 QC)] ∧ η = [.row g1000 2 1 51 (fun _ => [aM g20 0 g1000, .own 1 g20 0 VH.length]), .row g20 1 VH.length 5 (row cB VH), .row 0 4 1 29 (fun _ => om.lit)]) ?_ ?_
 refine .d (jV h (fun GY h => ?_) (fun GY h => ?_))
 refine ⟨row cS ([[44, 32]] : List aq), aD cS ([[44, 32]] : List aq) rfl (aB rfl), (bk h fun Iw abl h => (cp (aw (g1000 := g1000) (g1001 := g10) (g1002 := 0) abl) [0, 1, 3] ⟨cz, ov, ov, ⟨⟩⟩ ?_))⟩
 rintro _ _ ⟨g28, g29, rfl, rfl⟩
 exact ⟨.aV [], [.row g1000 2 1 51 (fun _ => [aM g28 0 g1000, .own 1 g28 0 Iw.af.ao.length]), .row g28 1 Iw.af.ao.length 5 (row cB Iw.af.ao), .row 0 4 1 29 (fun _ => om.lit), .row g29 1 ([[44, 32]] : List aq).length 9 (row cS ([[44, 32]] : List aq))], rfl, avi, (ct ⟨_, g28, si h, rfl, rfl⟩ (tk [0, 1, 2] ⟨.p, .i, .p, .l, .i, .i, ⟨⟩⟩ ⟨(ob rfl ⟨.aM, .o, ⟨⟩⟩), od, (bZ rfl), ⟨⟩⟩))⟩
 exact ct ⟨_, g10, si h, rfl, rfl⟩ (tk [0, 1, 2] ⟨.p, .i, .p, .l, .i, .i, ⟨⟩⟩ ⟨(ob rfl ⟨.aM, .o, ⟨⟩⟩), od, (bZ rfl), ⟨⟩⟩)
 rintro _ _ ⟨VH, g20, rfl, rfl, rfl⟩
 replace h := aqV
 refine .d (.d (.d ⟨rfl, ⟨rfl, _, rfl, (sE h (fun Lf h => ?_) (fun Lf h => ?_))⟩⟩))
 refine ⟨row cS ([[38]] : List aq), aD cS ([[38]] : List aq) rfl (aB rfl), (bk h fun v31 abm h => (cp (aw (g1000 := g1000) (g1001 := g20) (g1002 := 0) abm) [0, 1, 3] ⟨cz, ov, ov, ⟨⟩⟩ ?_))⟩
 rintro _ _ ⟨g33, g34, rfl, rfl⟩
 refine ⟨.aV [], [.row g1000 2 1 51 (fun _ => [aM g33 0 g1000, .own 1 g33 0 v31.af.ao.length]), .row g33 1 v31.af.ao.length 5 (row cB v31.af.ao), .row 0 4 1 29 (fun _ => om.lit), .row g34 1 ([[38]] : List aq).length 9 (row cS ([[38]] : List aq))], rfl, avi, ⟨rfl, ⟨rfl, _, rfl, ⟨row cS ([[36], om.aj] : List aq), aD cS ([[36], om.aj] : List aq) rfl (aB rfl), (bk h fun xS Dn h => (cp (aw (g1000 := g1000) (g1001 := g33) (g1002 := 0) Dn) [0, 1, 4] ⟨cz, ov, ov, ⟨⟩⟩ ?_))⟩⟩⟩⟩
 rintro _ _ ⟨QD, g38, rfl, rfl⟩
 exact ⟨.aV [], [.row g1000 2 1 51 (fun _ => [aM QD 0 g1000, .own 1 QD 0 xS.af.ao.length]), .row QD 1 xS.af.ao.length 5 (row cB xS.af.ao), .row 0 4 1 29 (fun _ => om.lit), .row g34 1 ([[38]] : List aq).length 9 (row cS ([[38]] : List aq)), .row g38 1 ([[36], om.aj] : List aq).length 9 (row cS ([[36], om.aj] : List aq))], rfl, avi, (lg (abk _ _ _ _ h QD rfl) (tk [0, 1] ⟨.p, .i, .b, .l, .i, .i, ⟨⟩⟩ ⟨(ob rfl ⟨.aM, .o, ⟨⟩⟩), od, ⟨⟩⟩))⟩
 refine ⟨rfl, ⟨rfl, _, rfl, ⟨row cS ([[36], om.aj] : List aq), aD cS ([[36], om.aj] : List aq) rfl (aB rfl), (bk h fun v39 aqW h => (cp (aw (g1000 := g1000) (g1001 := g20) (g1002 := 0) aqW) [0, 1, 3] ⟨cz, ov, ov, ⟨⟩⟩ ?_))⟩⟩⟩
 rintro _ _ ⟨g41, g42, rfl, rfl⟩
 exact ⟨.aV [], [.row g1000 2 1 51 (fun _ => [aM g41 0 g1000, .own 1 g41 0 v39.af.ao.length]), .row g41 1 v39.af.ao.length 5 (row cB v39.af.ao), .row 0 4 1 29 (fun _ => om.lit), .row g42 1 ([[36], om.aj] : List aq).length 9 (row cS ([[36], om.aj] : List aq))], rfl, avi, (lg (abk _ _ _ _ h g41 rfl) (tk [0, 1] ⟨.p, .i, .b, .l, .i, .i, ⟨⟩⟩ ⟨(ob rfl ⟨.aM, .o, ⟨⟩⟩), od, ⟨⟩⟩))⟩
 exact ct ⟨_, g10, si h, rfl, rfl⟩ (tk [0, 1] ⟨.p, ⟨⟩⟩ ⟨(ob rfl ⟨.aM, .o, ⟨⟩⟩), od, ⟨⟩⟩)
 rintro _ _ ⟨l6, g5, rfl, rfl, rfl⟩
 replace h := zR
 refine ⟨row cS ([[41]] : List aq), aD cS ([[41]] : List aq) rfl (aB rfl), (bk h fun E0 Lg h => (cp (aw (g1000 := g1000) (g1001 := g5) (g1002 := 0) Lg) [0, 1, 2] ⟨cz, ov, ov, ⟨⟩⟩ ?_))⟩
 rintro _ _ ⟨Mi, g48, rfl, rfl⟩
 refine ⟨.aV [], [.row g1000 2 1 51 (fun _ => [aM Mi 0 g1000, .own 1 Mi 0 E0.af.ao.length]), .row Mi 1 E0.af.ao.length 5 (row cB E0.af.ao), .row g48 1 ([[41]] : List aq).length 9 (row cS ([[41]] : List aq))], rfl, avi, ?_⟩
 obtain rfl := si h
 exact en [0, 1] ⟨Mi, rfl, rfl⟩ (.bu ⟨⟩) ⟨(ob rfl ⟨.aM, .o, ⟨⟩⟩), od, ⟨⟩⟩
def bL (a1 : ae) (nW : av) (GZ : Int) : Option ((List UInt8)) :=
 (if GZ < (a1.ah.length : Int) then
 idx a1.ah GZ >>= fun Au =>
 (if Au.ai = 25 then
 ak nW ([[32, 117, 115, 101, 32]] : List aq) >>= fun Mj =>
 dq Mj a1.ah 25 >>= fun Mk =>
 some Mk.af.ao
 else
 bL a1 nW (aS (GZ + 1)))
 else
 some nW.af.ao)
partial_fixpoint
mutual
def aO (a0 : av) (a1 : ae) (a2 : Int) : Option (av) :=
 lh a1 >>= fun v1 =>
 (if v1 < a2 then
 ak a0 ([[40]] : List aq) >>= fun v4 =>
 gn v4 a1 >>= fun v8 =>
 ak v8 ([[41]] : List aq) >>= fun v11 =>
 some v11
 else
 gn a0 a1 >>= fun xN =>
 some xN)
partial_fixpoint
def gn (a0 : av) (a1 : ae) : Option (av) :=
 (if a1.ai = 1 then
 jH a1.aC >>= fun u6 =>
 ak a0 ([u6] : List aq) >>= fun v21 =>
 some v21
 else
 (if a1.ai = 2 then
 iF a1.aj >>= fun Iw =>
 ak a0 ([Iw] : List aq) >>= fun v28 =>
 some v28
 else
 (if a1.ai = 3 then
 idx ([[110, 117, 108, 108], [102, 97, 108, 115, 101], [116, 114, 117, 101]] : List aq) a1.aC >>= fun OP =>
 ak a0 ([OP] : List aq) >>= fun xS =>
 some xS
 else
 (if a1.ai = 4 then
 ak a0 ([[36], a1.aj] : List aq) >>= fun v40 =>
 some v40
 else
 (if a1.ai = 5 then
 jQ a0 a1 >>= fun E0 =>
 some E0
 else
 (if a1.ai = 7 then
 idx a1.ah 0 >>= fun x49 =>
 aO a0 x49 12 >>= fun v51 =>
 ak v51 ([[91]] : List aq) >>= fun VI =>
 idx a1.ah 1 >>= fun x58 =>
 aO VI x58 1 >>= fun VJ =>
 ak VJ ([[93]] : List aq) >>= fun KH =>
 some KH
 else
 (if a1.ai = 8 then
 idx a1.ah 0 >>= fun x68 =>
 aO a0 x68 12 >>= fun v70 =>
 ak v70 ([[45, 62], a1.aj] : List aq) >>= fun v73 =>
 some v73
 else
 (if a1.ai = 9 then
 idx ([[], [33], [45]] : List aq) a1.aC >>= fun VK =>
 ak a0 ([VK] : List aq) >>= fun v80 =>
 idx a1.ah 0 >>= fun x84 =>
 aO v80 x84 11 >>= fun v86 =>
 some v86
 else
 (if a1.ai = 10 then
 j7 a1.aC >>= fun v90 =>
 kB a1.aC >>= fun v92 =>
 aI [32] v92 >>= fun s94 =>
 aI s94 [32] >>= fun s96 =>
 bC a0 a1 v90 s96 (aS (v90 + 1)) >>= fun Sv =>
 some Sv
 else
 (if a1.ai = 11 then
 bC a0 a1 5 [32, 38, 38, 32] 6 >>= fun Ml =>
 some Ml
 else
 (if a1.ai = 12 then
 bC a0 a1 4 [32, 124, 124, 32] 5 >>= fun Mm =>
 some Mm
 else
 (if a1.ai = 13 then
 bC a0 a1 4 [32, 63, 63, 32] 3 >>= fun Mn =>
 some Mn
 else
 (if a1.ai = 14 then
 bC a0 a1 3 [32, 63, 32] 1 >>= fun Mo =>
 ak Mo ([[32, 58, 32]] : List aq) >>= fun v117 =>
 idx a1.ah 2 >>= fun abn =>
 aO v117 abn 2 >>= fun Mp =>
 some Mp
 else
 (if a1.ai = 15 then
 bC a0 a1 12 [32, 61, 32] 1 >>= fun v127 =>
 some v127
 else
 (if a1.ai = 16 then
 bC a0 a1 12 [91, 93, 32, 61, 32] 1 >>= fun v131 =>
 some v131
 else
 (if a1.ai = 17 then
 idx a1.ah 0 >>= fun D2 =>
 ak a0 ([[36], a1.aj, [32, 61, 32, 38, 36], D2.aj] : List aq) >>= fun Mq =>
 some Mq
 else
 (
 (if a1.ai = 18 then
 some (a1.ai == 18)
 else
 some (a1.ai == 21))
 : Option (Bool)) >>= fun Mr =>
 (if Mr = true then
 ak a0 ([a1.aj] : List aq) >>= fun BV =>
 dx BV a1.ah >>= fun Ms =>
 some Ms
 else
 (if a1.ai = 22 then
 ak a0 ([[110, 101, 119, 32], a1.aj] : List aq) >>= fun wm =>
 dx wm a1.ah >>= fun v159 =>
 some v159
 else
 (if a1.ai = 20 then
 idx a1.ah 0 >>= fun abo =>
 aO a0 abo 12 >>= fun vX =>
 ak vX ([[45, 62], a1.aj] : List aq) >>= fun v168 =>
 j5 a1.ah 1 >>= fun QE =>
 dx v168 QE >>= fun Bl =>
 some Bl
 else
 (if a1.ai = 19 then
 idx a1.ah 0 >>= fun abp =>
 (if abp.ai = 8 then
 idx a1.ah 0 >>= fun ri =>
 aO a0 ri 13 >>= fun v183 =>
 j5 a1.ah 1 >>= fun QF =>
 dx v183 QF >>= fun Mt =>
 some Mt
 else
 idx a1.ah 0 >>= fun abq =>
 aO a0 abq 12 >>= fun v193 =>
 j5 a1.ah 1 >>= fun QG =>
 dx v193 QG >>= fun v198 =>
 some v198)
 else
 (if a1.ai = 23 then
 fF a0 a1 >>= fun Mv =>
 some Mv
 else
 some a0)))))))))))))))))))))
partial_fixpoint
def bC (a0 : av) (a1 : ae) (a2 : Int) (a3 : aq) (a4 : Int) : Option (av) :=
 idx a1.ah 0 >>= fun abr =>
 aO a0 abr a2 >>= fun BC =>
 ak BC ([a3] : List aq) >>= fun v210 =>
 idx a1.ah 1 >>= fun abt =>
 aO v210 abt a4 >>= fun Mw =>
 some Mw
partial_fixpoint
def dx (a0 : av) (a1 : List ae) : Option (av) :=
 ak a0 ([[40]] : List aq) >>= fun G0 =>
 (
 cR a1 G0.af.ao 0
 : Option ((List UInt8))) >>= fun D3 =>
 ak (av.mk (aE.mk () D3)) ([[41]] : List aq) >>= fun Mx =>
 some Mx
partial_fixpoint
def jQ (a0 : av) (a1 : ae) : Option (av) :=
 ak a0 ([[91]] : List aq) >>= fun zG =>
 (
 cU a1 zG.af.ao 0
 : Option ((List UInt8))) >>= fun D4 =>
 ak (av.mk (aE.mk () D4)) ([[93]] : List aq) >>= fun BW =>
 some BW
partial_fixpoint
def fF (a0 : av) (a1 : ae) : Option (av) :=
 ak a0 ([[102, 117, 110, 99, 116, 105, 111, 110, 32]] : List aq) >>= fun My =>
 dq My a1.ah 24 >>= fun nW =>
 (
 bL a1 nW 0
 : Option ((List UInt8))) >>= fun D5 =>
 ak (av.mk (aE.mk () D5)) ([[32]] : List aq) >>= fun Mz =>
 idx a1.ah (aS ((a1.ah.length : Int) - 1)) >>= fun abu =>
 aY Mz abu >>= fun MA =>
 some MA
partial_fixpoint
def aY (a0 : av) (a1 : ae) : Option (av) :=
 ak a0 ([[123, 32]] : List aq) >>= fun G3 =>
 (
 dt a1 G3.af.ao 0
 : Option ((List UInt8))) >>= fun D6 =>
 ak (av.mk (aE.mk () D6)) ([[125]] : List aq) >>= fun MB =>
 some MB
partial_fixpoint
def cw (a0 : av) (a1 : aq) (a2 : ae) : Option (av) :=
 ak a0 ([a1] : List aq) >>= fun BY =>
 aO BY a2 1 >>= fun MC =>
 ak MC ([[59]] : List aq) >>= fun MD =>
 some MD
partial_fixpoint
def cN (a0 : av) (a1 : ae) : Option (av) :=
 (if a1.ai = 31 then
 ak a0 ([[63, 62, 10], a1.aj, [60, 63, 32]] : List aq) >>= fun ME =>
 some ME
 else
 (if a1.ai = 32 then
 idx a1.ah 0 >>= fun z6 =>
 cw a0 [101, 99, 104, 111, 32] z6 >>= fun x5 =>
 some x5
 else
 (if a1.ai = 33 then
 idx a1.ah 0 >>= fun abv =>
 cw a0 [] abv >>= fun MF =>
 some MF
 else
 (if a1.ai = 34 then
 ak a0 ([[105, 102, 32, 40]] : List aq) >>= fun MG =>
 idx a1.ah 0 >>= fun abw =>
 aO MG abw 1 >>= fun MH =>
 ak MH ([[41, 32]] : List aq) >>= fun MI =>
 idx a1.ah 1 >>= fun abx =>
 aY MI abx >>= fun G4 =>
 (if (a1.ah.length : Int) = 3 then
 ak G4 ([[32, 101, 108, 115, 101, 32]] : List aq) >>= fun MJ =>
 idx a1.ah 2 >>= fun aby =>
 aY MJ aby >>= fun MK =>
 some MK
 else
 some G4)
 else
 (if a1.ai = 35 then
 ak a0 ([[119, 104, 105, 108, 101, 32, 40]] : List aq) >>= fun ML =>
 idx a1.ah 0 >>= fun wq =>
 aO ML wq 1 >>= fun u9 =>
 ak u9 ([[41, 32]] : List aq) >>= fun MM =>
 idx a1.ah 1 >>= fun abz =>
 aY MM abz >>= fun MN =>
 some MN
 else
 (if a1.ai = 36 then
 ak a0 ([[102, 111, 114, 101, 97, 99, 104, 32, 40]] : List aq) >>= fun MO =>
 idx a1.ah 0 >>= fun abA =>
 aO MO abA 1 >>= fun MP =>
 idx a1.ah 1 >>= fun Av =>
 ak MP ([[32, 97, 115, 32, 36], Av.aj] : List aq) >>= fun G5 =>
 (
 (if (a1.ah.length : Int) = 4 then
 idx a1.ah 2 >>= fun D7 =>
 ak G5 ([[32, 61, 62, 32, 36], D7.aj] : List aq) >>= fun MQ =>
 some MQ.af.ao
 else
 some G5.af.ao)
 : Option ((List UInt8))) >>= fun D8 =>
 ak (av.mk (aE.mk () D8)) ([[41, 32]] : List aq) >>= fun MR =>
 idx a1.ah (aS ((a1.ah.length : Int) - 1)) >>= fun abB =>
 aY MR abB >>= fun MS =>
 some MS
 else
 (if a1.ai = 37 then
 ak a0 ([[98, 114, 101, 97, 107, 59]] : List aq) >>= fun MT =>
 some MT
 else
 (if a1.ai = 38 then
 ak a0 ([[99, 111, 110, 116, 105, 110, 117, 101, 59]] : List aq) >>= fun MU =>
 some MU
 else
 (if a1.ai = 39 then
 (if (a1.ah.length : Int) = 0 then
 ak a0 ([[114, 101, 116, 117, 114, 110, 59]] : List aq) >>= fun MV =>
 some MV
 else
 idx a1.ah 0 >>= fun abC =>
 cw a0 [114, 101, 116, 117, 114, 110, 32] abC >>= fun MW =>
 some MW)
 else
 (if a1.ai = 40 then
 ak a0 ([[103, 108, 111, 98, 97, 108, 32, 36], a1.aj, [59]] : List aq) >>= fun MX =>
 some MX
 else
 (if a1.ai = 41 then
 ak a0 ([[117, 110, 115, 101, 116, 40]] : List aq) >>= fun MY =>
 idx a1.ah 0 >>= fun abD =>
 aO MY abD 12 >>= fun MZ =>
 ak MZ ([[41, 59]] : List aq) >>= fun M0 =>
 some M0
 else
 (if a1.ai = 42 then
 idx a1.ah 0 >>= fun abE =>
 cw a0 [116, 104, 114, 111, 119, 32] abE >>= fun M1 =>
 some M1
 else
 (if a1.ai = 46 then
 (if (a1.ah.length : Int) = 2 then
 idx a1.ah 0 >>= fun Aw =>
 ak a0 ([[36], Aw.aj, [32, 61, 32]] : List aq) >>= fun M3 =>
 idx a1.ah (aS ((a1.ah.length : Int) - 1)) >>= fun abF =>
 cw M3 [121, 105, 101, 108, 100, 32] abF >>= fun M4 =>
 some M4
 else
 idx a1.ah (aS ((a1.ah.length : Int) - 1)) >>= fun abG =>
 cw a0 [121, 105, 101, 108, 100, 32] abG >>= fun M5 =>
 some M5)
 else
 (if a1.ai = 47 then
 iF a1.aj >>= fun G6 =>
 ak a0 ([[105, 110, 99, 108, 117, 100, 101, 32], G6, [59]] : List aq) >>= fun M6 =>
 some M6
 else
 (if a1.ai = 48 then
 aY a0 a1 >>= fun M7 =>
 some M7
 else
 (if a1.ai = 43 then
 ee a0 a1 >>= fun M8 =>
 some M8
 else
 (if a1.ai = 49 then
 cA a0 a1 >>= fun M9 =>
 some M9
 else
 (if a1.ai = 50 then
 gR a0 [99, 108, 97, 115, 115, 32] a1 >>= fun Na =>
 some Na
 else
 (if a1.ai = 51 then
 gR a0 [116, 114, 97, 105, 116, 32] a1 >>= fun Nb =>
 some Nb
 else
 some a0)))))))))))))))))))
partial_fixpoint
def ee (a0 : av) (a1 : ae) : Option (av) :=
 ak a0 ([[116, 114, 121, 32]] : List aq) >>= fun Nc =>
 idx a1.ah 0 >>= fun abH =>
 aY Nc abH >>= fun zU =>
 j5 a1.ah 1 >>= fun fV =>
 bR fV zU.af.ao 0
partial_fixpoint
def cA (a0 : av) (a1 : ae) : Option (av) :=
 ak a0 ([[102, 117, 110, 99, 116, 105, 111, 110, 32], a1.aj] : List aq) >>= fun Nd =>
 dq Nd a1.ah 24 >>= fun Nf =>
 ak Nf ([[32]] : List aq) >>= fun Ng =>
 idx a1.ah (aS ((a1.ah.length : Int) - 1)) >>= fun abI =>
 aY Ng abI >>= fun Nh =>
 some Nh
partial_fixpoint
def gR (a0 : av) (a1 : aq) (a2 : ae) : Option (av) :=
 ak a0 ([a1, a2.aj] : List aq) >>= fun D9 =>
 (
 (if (a2.ah.length : Int) > 0 then
 idx a2.ah 0 >>= fun abJ =>
 (if abJ.ai = 52 then
 idx a2.ah 0 >>= fun Ea =>
 ak D9 ([[32, 101, 120, 116, 101, 110, 100, 115, 32], Ea.aj] : List aq) >>= fun Ni =>
 j5 a2.ah 1 >>= fun QH =>
 some (Ni.af.ao, QH)
 else
 some (D9.af.ao, a2.ah))
 else
 some (D9.af.ao, a2.ah))
 : Option ((List UInt8) × (List ae))) >>= fun (Eb, ef) =>
 ak (av.mk (aE.mk () Eb)) ([[32, 123, 32]] : List aq) >>= fun G7 =>
 (
 bN ef G7.af.ao 0
 : Option ((List UInt8))) >>= fun Ec =>
 ak (av.mk (aE.mk () Ec)) ([[125]] : List aq) >>= fun Nj =>
 some Nj
partial_fixpoint
def cR (a1 : List ae) (iz : List UInt8) (gK : Int) : Option ((List UInt8)) :=
 (if gK < (a1.length : Int) then
 idx a1 gK >>= fun pJ =>
 (if gK > 0 then
 ak (av.mk (aE.mk () iz)) ([[44, 32]] : List aq) >>= fun Ax =>
 aO Ax pJ 1 >>= fun Ay =>
 cR a1 Ay.af.ao (aS (gK + 1))
 else
 aO (av.mk (aE.mk () iz)) pJ 1 >>= fun Az =>
 cR a1 Az.af.ao (aS (gK + 1)))
 else
 some iz)
partial_fixpoint
def cU (a1 : ae) (iA : List UInt8) (gG : Int) : Option ((List UInt8)) :=
 (if gG < (a1.ah.length : Int) then
 idx a1.ah gG >>= fun ly =>
 (
 (if gG > 0 then
 ak (av.mk (aE.mk () iA)) ([[44, 32]] : List aq) >>= fun uX =>
 some uX.af.ao
 else
 some iA)
 : Option ((List UInt8))) >>= fun sY =>
 (if (ly.ah.length : Int) = 2 then
 bC (av.mk (aE.mk () sY)) ly 1 [32, 61, 62, 32] 1 >>= fun AA =>
 cU a1 AA.af.ao (aS (gG + 1))
 else
 idx ly.ah 0 >>= fun Ed =>
 aO (av.mk (aE.mk () sY)) Ed 1 >>= fun AB =>
 cU a1 AB.af.ao (aS (gG + 1)))
 else
 some iA)
partial_fixpoint
def dt (a1 : ae) (jr : List UInt8) (jd : Int) : Option ((List UInt8)) :=
 (if jd < (a1.ah.length : Int) then
 idx a1.ah jd >>= fun uc =>
 cN (av.mk (aE.mk () jr)) uc >>= fun AD =>
 ak AD ([[32]] : List aq) >>= fun AE =>
 dt a1 AE.af.ao (aS (jd + 1))
 else
 some jr)
partial_fixpoint
def bR (fV : List ae) (iB : List UInt8) (ie : Int) : Option (av) :=
 (if ie < (fV.length : Int) then
 idx fV ie >>= fun jF =>
 (if jF.ai = 44 then
 idx jF.ah 0 >>= fun ud =>
 ak (av.mk (aE.mk () iB)) ([[32, 99, 97, 116, 99, 104, 32, 40], jF.aj, [32, 36], ud.aj, [41, 32]] : List aq) >>= fun AF =>
 idx jF.ah 1 >>= fun Ee =>
 aY AF Ee >>= fun AG =>
 bR fV AG.af.ao (aS (ie + 1))
 else
 ak (av.mk (aE.mk () iB)) ([[32, 102, 105, 110, 97, 108, 108, 121, 32]] : List aq) >>= fun AH =>
 idx jF.ah 0 >>= fun Ef =>
 aY AH Ef >>= fun AI =>
 bR fV AI.af.ao (aS (ie + 1)))
 else
 some (av.mk (aE.mk () iB)))
partial_fixpoint
def bN (ef : List ae) (gX : List UInt8) (gy : Int) : Option ((List UInt8)) :=
 (if gy < (ef.length : Int) then
 idx ef gy >>= fun fW =>
 (if fW.ai = 53 then
 ak (av.mk (aE.mk () gX)) ([[117, 115, 101, 32], fW.aj, [59, 32]] : List aq) >>= fun AJ =>
 bN ef AJ.af.ao (aS (gy + 1))
 else
 (
 (if (bits .and .i64 fW.aC 1) = 0 then
 some gX
 else
 ak (av.mk (aE.mk () gX)) ([[112, 114, 105, 118, 97, 116, 101, 32]] : List aq) >>= fun wO =>
 some wO.af.ao)
 : Option ((List UInt8))) >>= fun pz =>
 (
 (if (bits .and .i64 fW.aC 2) = 0 then
 some pz
 else
 ak (av.mk (aE.mk () pz)) ([[115, 116, 97, 116, 105, 99, 32]] : List aq) >>= fun wP =>
 some wP.af.ao)
 : Option ((List UInt8))) >>= fun sZ =>
 (if fW.ai = 54 then
 aI [36] fW.aj >>= fun Eg =>
 aI Eg [32, 61, 32] >>= fun Eh =>
 idx fW.ah 0 >>= fun Ei =>
 cw (av.mk (aE.mk () sZ)) Eh Ei >>= fun AK =>
 ak AK ([[32]] : List aq) >>= fun AL =>
 bN ef AL.af.ao (aS (gy + 1))
 else
 cA (av.mk (aE.mk () sZ)) fW >>= fun AM =>
 ak AM ([[32]] : List aq) >>= fun AN =>
 bN ef AN.af.ao (aS (gy + 1))))
 else
 some gX)
partial_fixpoint
end
def zb (a0 : av) (a1 : ae) (a2 : Int) (r : av) : Prop := ∀ g1000 : Nat, ∀ g1001 : Nat, ACall Tryz.prog 46 [.aL 0 g1000 0 0, .agg a1.lit, .int .i64 a2] [.row g1000 2 1 51 (fun _ => [aM g1001 0 g1000, .own 1 g1001 0 a0.af.ao.length]), .row g1001 1 a0.af.ao.length 5 (row cB a0.af.ao)] (fun res h => ∃ G1 : Nat, res = .aV [] ∧ h = [.row g1000 2 1 51 (fun _ => [aM G1 0 g1000, .own 1 G1 0 r.af.ao.length]), .row G1 1 r.af.ao.length 5 (row cB r.af.ao)])
def VL (a0 : av) (a1 : ae) (r : av) : Prop := ∀ g1000 : Nat, ∀ g1001 : Nat, ACall Tryz.prog 93 [.aL 0 g1000 0 0, .agg a1.lit] [.row g1000 2 1 51 (fun _ => [aM g1001 0 g1000, .own 1 g1001 0 a0.af.ao.length]), .row g1001 1 a0.af.ao.length 5 (row cB a0.af.ao)] (fun res h => ∃ G1 : Nat, res = .aV [] ∧ h = [.row g1000 2 1 51 (fun _ => [aM G1 0 g1000, .own 1 G1 0 r.af.ao.length]), .row G1 1 r.af.ao.length 5 (row cB r.af.ao)])
def AO (a0 : av) (a1 : ae) (a2 : Int) (a3 : aq) (a4 : Int) (r : av) : Prop := ∀ g1000 : Nat, ∀ g1001 : Nat, ACall Tryz.prog 154 [.aL 0 g1000 0 0, .agg a1.lit, .int .i64 a2, .str a3, .int .i64 a4] [.row g1000 2 1 51 (fun _ => [aM g1001 0 g1000, .own 1 g1001 0 a0.af.ao.length]), .row g1001 1 a0.af.ao.length 5 (row cB a0.af.ao)] (fun res h => ∃ G1 : Nat, res = .aV [] ∧ h = [.row g1000 2 1 51 (fun _ => [aM G1 0 g1000, .own 1 G1 0 r.af.ao.length]), .row G1 1 r.af.ao.length 5 (row cB r.af.ao)])
def Nk (a0 : av) (a1 : List ae) (r : av) : Prop := ∀ g1000 : Nat, ∀ g1001 : Nat, ACall Tryz.prog 156 [.aL 0 g1000 0 0, sl 4 ae.cells a1] [.row g1000 2 1 51 (fun _ => [aM g1001 0 g1000, .own 1 g1001 0 a0.af.ao.length]), .row g1001 1 a0.af.ao.length 5 (row cB a0.af.ao)] (fun res h => ∃ G1 : Nat, res = .aV [] ∧ h = [.row g1000 2 1 51 (fun _ => [aM G1 0 g1000, .own 1 G1 0 r.af.ao.length]), .row G1 1 r.af.ao.length 5 (row cB r.af.ao)])
def Nl (a0 : av) (a1 : ae) (r : av) : Prop := ∀ g1000 : Nat, ∀ g1001 : Nat, ACall Tryz.prog 153 [.aL 0 g1000 0 0, .agg a1.lit] [.row g1000 2 1 51 (fun _ => [aM g1001 0 g1000, .own 1 g1001 0 a0.af.ao.length]), .row g1001 1 a0.af.ao.length 5 (row cB a0.af.ao)] (fun res h => ∃ G1 : Nat, res = .aV [] ∧ h = [.row g1000 2 1 51 (fun _ => [aM G1 0 g1000, .own 1 G1 0 r.af.ao.length]), .row G1 1 r.af.ao.length 5 (row cB r.af.ao)])
def Nn (a0 : av) (a1 : ae) (r : av) : Prop := ∀ g1000 : Nat, ∀ g1001 : Nat, ACall Tryz.prog 157 [.aL 0 g1000 0 0, .agg a1.lit] [.row g1000 2 1 51 (fun _ => [aM g1001 0 g1000, .own 1 g1001 0 a0.af.ao.length]), .row g1001 1 a0.af.ao.length 5 (row cB a0.af.ao)] (fun res h => ∃ G1 : Nat, res = .aV [] ∧ h = [.row g1000 2 1 51 (fun _ => [aM G1 0 g1000, .own 1 G1 0 r.af.ao.length]), .row G1 1 r.af.ao.length 5 (row cB r.af.ao)])
def FH (a0 : av) (a1 : ae) (r : av) : Prop := ∀ g1000 : Nat, ∀ g1001 : Nat, ACall Tryz.prog 42 [.aL 0 g1000 0 0, .agg a1.lit] [.row g1000 2 1 51 (fun _ => [aM g1001 0 g1000, .own 1 g1001 0 a0.af.ao.length]), .row g1001 1 a0.af.ao.length 5 (row cB a0.af.ao)] (fun res h => ∃ G1 : Nat, res = .aV [] ∧ h = [.row g1000 2 1 51 (fun _ => [aM G1 0 g1000, .own 1 G1 0 r.af.ao.length]), .row G1 1 r.af.ao.length 5 (row cB r.af.ao)])
def FI (a0 : av) (a1 : aq) (a2 : ae) (r : av) : Prop := ∀ g1000 : Nat, ∀ g1001 : Nat, ACall Tryz.prog 95 [.aL 0 g1000 0 0, .str a1, .agg a2.lit] [.row g1000 2 1 51 (fun _ => [aM g1001 0 g1000, .own 1 g1001 0 a0.af.ao.length]), .row g1001 1 a0.af.ao.length 5 (row cB a0.af.ao)] (fun res h => ∃ G1 : Nat, res = .aV [] ∧ h = [.row g1000 2 1 51 (fun _ => [aM G1 0 g1000, .own 1 G1 0 r.af.ao.length]), .row G1 1 r.af.ao.length 5 (row cB r.af.ao)])
def FJ (a0 : av) (a1 : ae) (r : av) : Prop := ∀ g1000 : Nat, ∀ g1001 : Nat, ACall Tryz.prog 49 [.aL 0 g1000 0 0, .agg a1.lit] [.row g1000 2 1 51 (fun _ => [aM g1001 0 g1000, .own 1 g1001 0 a0.af.ao.length]), .row g1001 1 a0.af.ao.length 5 (row cB a0.af.ao)] (fun res h => ∃ G1 : Nat, res = .aV [] ∧ h = [.row g1000 2 1 51 (fun _ => [aM G1 0 g1000, .own 1 G1 0 r.af.ao.length]), .row G1 1 r.af.ao.length 5 (row cB r.af.ao)])
def VM (a0 : av) (a1 : ae) (r : av) : Prop := ∀ g1000 : Nat, ∀ g1001 : Nat, ACall Tryz.prog 97 [.aL 0 g1000 0 0, .agg a1.lit] [.row g1000 2 1 51 (fun _ => [aM g1001 0 g1000, .own 1 g1001 0 a0.af.ao.length]), .row g1001 1 a0.af.ao.length 5 (row cB a0.af.ao)] (fun res h => ∃ G1 : Nat, res = .aV [] ∧ h = [.row g1000 2 1 51 (fun _ => [aM G1 0 g1000, .own 1 G1 0 r.af.ao.length]), .row G1 1 r.af.ao.length 5 (row cB r.af.ao)])
def FK (a0 : av) (a1 : ae) (r : av) : Prop := ∀ g1000 : Nat, ∀ g1001 : Nat, ACall Tryz.prog 98 [.aL 0 g1000 0 0, .agg a1.lit] [.row g1000 2 1 51 (fun _ => [aM g1001 0 g1000, .own 1 g1001 0 a0.af.ao.length]), .row g1001 1 a0.af.ao.length 5 (row cB a0.af.ao)] (fun res h => ∃ G1 : Nat, res = .aV [] ∧ h = [.row g1000 2 1 51 (fun _ => [aM G1 0 g1000, .own 1 G1 0 r.af.ao.length]), .row G1 1 r.af.ao.length 5 (row cB r.af.ao)])
def VN (a0 : av) (a1 : aq) (a2 : ae) (r : av) : Prop := ∀ g1000 : Nat, ∀ g1001 : Nat, ACall Tryz.prog 99 [.aL 0 g1000 0 0, .str a1, .agg a2.lit] [.row g1000 2 1 51 (fun _ => [aM g1001 0 g1000, .own 1 g1001 0 a0.af.ao.length]), .row g1001 1 a0.af.ao.length 5 (row cB a0.af.ao)] (fun res h => ∃ G1 : Nat, res = .aV [] ∧ h = [.row g1000 2 1 51 (fun _ => [aM G1 0 g1000, .own 1 G1 0 r.af.ao.length]), .row G1 1 r.af.ao.length 5 (row cB r.af.ao)])
inductive cq : (List ae) → (List UInt8) → Int → ((List UInt8)) → Prop
 | mk (G8 : av → ae → Int → Option (av)) (abK : ∀ a0 a1 a2 r, G8 a0 a1 a2 = some r → zb a0 a1 a2 r) (bT : (List ae) → (List UInt8) → Int → Option ((List UInt8))) (oR : ∀ a1 iz gK o, bT a1 iz gK = some o → cq a1 iz gK o) (a1 : List ae) (iz : List UInt8) (gK : Int) (o : (List UInt8)) (h : (
 (if gK < (a1.length : Int) then
 idx a1 gK >>= fun pJ =>
 (if gK > 0 then
 ak (av.mk (aE.mk () iz)) ([[44, 32]] : List aq) >>= fun Ax =>
 G8 Ax pJ 1 >>= fun Ay =>
 bT a1 Ay.af.ao (aS (gK + 1))
 else
 G8 (av.mk (aE.mk () iz)) pJ 1 >>= fun Az =>
 bT a1 Az.af.ao (aS (gK + 1)))
 else
 some iz)
 ) = some o) : cq a1 iz gK o
theorem oq {motive : (List ae) → (List UInt8) → Int → ((List UInt8)) → Prop} (step : ∀ (G8 : av → ae → Int → Option (av)) (abK : ∀ a0 a1 a2 r, G8 a0 a1 a2 = some r → zb a0 a1 a2 r) (bT : (List ae) → (List UInt8) → Int → Option ((List UInt8))) (oR : ∀ a1 iz gK o, bT a1 iz gK = some o → cq a1 iz gK o) (a1 : List ae) (iz : List UInt8) (gK : Int) (o : (List UInt8)) (h : (
 (if gK < (a1.length : Int) then
 idx a1 gK >>= fun pJ =>
 (if gK > 0 then
 ak (av.mk (aE.mk () iz)) ([[44, 32]] : List aq) >>= fun Ax =>
 G8 Ax pJ 1 >>= fun Ay =>
 bT a1 Ay.af.ao (aS (gK + 1))
 else
 G8 (av.mk (aE.mk () iz)) pJ 1 >>= fun Az =>
 bT a1 Az.af.ao (aS (gK + 1)))
 else
 some iz)
 ) = some o) (ih : ∀ a1 iz gK o, bT a1 iz gK = some o → motive a1 iz gK o), motive a1 iz gK o) : ∀ a1 iz gK o, cq a1 iz gK o → motive a1 iz gK o :=
 fun a1 iz gK o h => cq.rec (motive := fun a1 iz gK o _ => motive a1 iz gK o) step h
inductive cr : ae → (List UInt8) → Int → ((List UInt8)) → Prop
 | mk (G8 : av → ae → Int → Option (av)) (abK : ∀ a0 a1 a2 r, G8 a0 a1 a2 = some r → zb a0 a1 a2 r) (Np : av → ae → Int → aq → Int → Option (av)) (akZ : ∀ a0 a1 a2 a3 a4 r, Np a0 a1 a2 a3 a4 = some r → AO a0 a1 a2 a3 a4 r) (bU : ae → (List UInt8) → Int → Option ((List UInt8))) (oS : ∀ a1 iA gG o, bU a1 iA gG = some o → cr a1 iA gG o) (a1 : ae) (iA : List UInt8) (gG : Int) (o : (List UInt8)) (h : (
 (if gG < (a1.ah.length : Int) then
 idx a1.ah gG >>= fun ly =>
 (
 (if gG > 0 then
 ak (av.mk (aE.mk () iA)) ([[44, 32]] : List aq) >>= fun uX =>
 some uX.af.ao
 else
 some iA)
 : Option ((List UInt8))) >>= fun sY =>
 (if (ly.ah.length : Int) = 2 then
 Np (av.mk (aE.mk () sY)) ly 1 [32, 61, 62, 32] 1 >>= fun AA =>
 bU a1 AA.af.ao (aS (gG + 1))
 else
 idx ly.ah 0 >>= fun Ed =>
 G8 (av.mk (aE.mk () sY)) Ed 1 >>= fun AB =>
 bU a1 AB.af.ao (aS (gG + 1)))
 else
 some iA)
 ) = some o) : cr a1 iA gG o
theorem ot {motive : ae → (List UInt8) → Int → ((List UInt8)) → Prop} (step : ∀ (G8 : av → ae → Int → Option (av)) (abK : ∀ a0 a1 a2 r, G8 a0 a1 a2 = some r → zb a0 a1 a2 r) (Np : av → ae → Int → aq → Int → Option (av)) (akZ : ∀ a0 a1 a2 a3 a4 r, Np a0 a1 a2 a3 a4 = some r → AO a0 a1 a2 a3 a4 r) (bU : ae → (List UInt8) → Int → Option ((List UInt8))) (oS : ∀ a1 iA gG o, bU a1 iA gG = some o → cr a1 iA gG o) (a1 : ae) (iA : List UInt8) (gG : Int) (o : (List UInt8)) (h : (
 (if gG < (a1.ah.length : Int) then
 idx a1.ah gG >>= fun ly =>
 (
 (if gG > 0 then
 ak (av.mk (aE.mk () iA)) ([[44, 32]] : List aq) >>= fun uX =>
 some uX.af.ao
 else
 some iA)
 : Option ((List UInt8))) >>= fun sY =>
 (if (ly.ah.length : Int) = 2 then
 Np (av.mk (aE.mk () sY)) ly 1 [32, 61, 62, 32] 1 >>= fun AA =>
 bU a1 AA.af.ao (aS (gG + 1))
 else
 idx ly.ah 0 >>= fun Ed =>
 G8 (av.mk (aE.mk () sY)) Ed 1 >>= fun AB =>
 bU a1 AB.af.ao (aS (gG + 1)))
 else
 some iA)
 ) = some o) (ih : ∀ a1 iA gG o, bU a1 iA gG = some o → motive a1 iA gG o), motive a1 iA gG o) : ∀ a1 iA gG o, cr a1 iA gG o → motive a1 iA gG o :=
 fun a1 iA gG o h => cr.rec (motive := fun a1 iA gG o _ => motive a1 iA gG o) step h
inductive b8 : ae → (List UInt8) → Int → ((List UInt8)) → Prop
 | mk (G49 : av → ae → Option (av)) (aqX : ∀ a0 a1 r, G49 a0 a1 = some r → FJ a0 a1 r) (cF : ae → (List UInt8) → Int → Option ((List UInt8))) (ou : ∀ a1 jr jd o, cF a1 jr jd = some o → b8 a1 jr jd o) (a1 : ae) (jr : List UInt8) (jd : Int) (o : (List UInt8)) (h : (
 (if jd < (a1.ah.length : Int) then
 idx a1.ah jd >>= fun uc =>
 G49 (av.mk (aE.mk () jr)) uc >>= fun AD =>
 ak AD ([[32]] : List aq) >>= fun AE =>
 cF a1 AE.af.ao (aS (jd + 1))
 else
 some jr)
 ) = some o) : b8 a1 jr jd o
theorem nH {motive : ae → (List UInt8) → Int → ((List UInt8)) → Prop} (step : ∀ (G49 : av → ae → Option (av)) (aqX : ∀ a0 a1 r, G49 a0 a1 = some r → FJ a0 a1 r) (cF : ae → (List UInt8) → Int → Option ((List UInt8))) (ou : ∀ a1 jr jd o, cF a1 jr jd = some o → b8 a1 jr jd o) (a1 : ae) (jr : List UInt8) (jd : Int) (o : (List UInt8)) (h : (
 (if jd < (a1.ah.length : Int) then
 idx a1.ah jd >>= fun uc =>
 G49 (av.mk (aE.mk () jr)) uc >>= fun AD =>
 ak AD ([[32]] : List aq) >>= fun AE =>
 cF a1 AE.af.ao (aS (jd + 1))
 else
 some jr)
 ) = some o) (ih : ∀ a1 jr jd o, cF a1 jr jd = some o → motive a1 jr jd o), motive a1 jr jd o) : ∀ a1 jr jd o, b8 a1 jr jd o → motive a1 jr jd o :=
 fun a1 jr jd o h => b8.rec (motive := fun a1 jr jd o _ => motive a1 jr jd o) step h
inductive cD : (List ae) → (List UInt8) → Int → (av) → Prop
 | mk (G42 : av → ae → Option (av)) (aqY : ∀ a0 a1 r, G42 a0 a1 = some r → FH a0 a1 r) (bY : (List ae) → (List UInt8) → Int → Option (av)) (pK : ∀ fV iB ie o, bY fV iB ie = some o → cD fV iB ie o) (fV : List ae) (iB : List UInt8) (ie : Int) (o : av) (h : (
 (if ie < (fV.length : Int) then
 idx fV ie >>= fun jF =>
 (if jF.ai = 44 then
 idx jF.ah 0 >>= fun ud =>
 ak (av.mk (aE.mk () iB)) ([[32, 99, 97, 116, 99, 104, 32, 40], jF.aj, [32, 36], ud.aj, [41, 32]] : List aq) >>= fun AF =>
 idx jF.ah 1 >>= fun Ee =>
 G42 AF Ee >>= fun AG =>
 bY fV AG.af.ao (aS (ie + 1))
 else
 ak (av.mk (aE.mk () iB)) ([[32, 102, 105, 110, 97, 108, 108, 121, 32]] : List aq) >>= fun AH =>
 idx jF.ah 0 >>= fun Ef =>
 G42 AH Ef >>= fun AI =>
 bY fV AI.af.ao (aS (ie + 1)))
 else
 some (av.mk (aE.mk () iB)))
 ) = some o) : cD fV iB ie o
theorem oT {motive : (List ae) → (List UInt8) → Int → (av) → Prop} (step : ∀ (G42 : av → ae → Option (av)) (aqY : ∀ a0 a1 r, G42 a0 a1 = some r → FH a0 a1 r) (bY : (List ae) → (List UInt8) → Int → Option (av)) (pK : ∀ fV iB ie o, bY fV iB ie = some o → cD fV iB ie o) (fV : List ae) (iB : List UInt8) (ie : Int) (o : av) (h : (
 (if ie < (fV.length : Int) then
 idx fV ie >>= fun jF =>
 (if jF.ai = 44 then
 idx jF.ah 0 >>= fun ud =>
 ak (av.mk (aE.mk () iB)) ([[32, 99, 97, 116, 99, 104, 32, 40], jF.aj, [32, 36], ud.aj, [41, 32]] : List aq) >>= fun AF =>
 idx jF.ah 1 >>= fun Ee =>
 G42 AF Ee >>= fun AG =>
 bY fV AG.af.ao (aS (ie + 1))
 else
 ak (av.mk (aE.mk () iB)) ([[32, 102, 105, 110, 97, 108, 108, 121, 32]] : List aq) >>= fun AH =>
 idx jF.ah 0 >>= fun Ef =>
 G42 AH Ef >>= fun AI =>
 bY fV AI.af.ao (aS (ie + 1)))
 else
 some (av.mk (aE.mk () iB)))
 ) = some o) (ih : ∀ fV iB ie o, bY fV iB ie = some o → motive fV iB ie o), motive fV iB ie o) : ∀ fV iB ie o, cD fV iB ie o → motive fV iB ie o :=
 fun fV iB ie o h => cD.rec (motive := fun fV iB ie o _ => motive fV iB ie o) step h
inductive ca : (List ae) → (List UInt8) → Int → ((List UInt8)) → Prop
 | mk (G95 : av → aq → ae → Option (av)) (aqZ : ∀ a0 a1 a2 r, G95 a0 a1 a2 = some r → FI a0 a1 a2 r) (G98 : av → ae → Option (av)) (aq0 : ∀ a0 a1 r, G98 a0 a1 = some r → FK a0 a1 r) (bf : (List ae) → (List UInt8) → Int → Option ((List UInt8))) (ow : ∀ ef gX gy o, bf ef gX gy = some o → ca ef gX gy o) (ef : List ae) (gX : List UInt8) (gy : Int) (o : (List UInt8)) (h : (
 (if gy < (ef.length : Int) then
 idx ef gy >>= fun fW =>
 (if fW.ai = 53 then
 ak (av.mk (aE.mk () gX)) ([[117, 115, 101, 32], fW.aj, [59, 32]] : List aq) >>= fun AJ =>
 bf ef AJ.af.ao (aS (gy + 1))
 else
 (
 (if (bits .and .i64 fW.aC 1) = 0 then
 some gX
 else
 ak (av.mk (aE.mk () gX)) ([[112, 114, 105, 118, 97, 116, 101, 32]] : List aq) >>= fun wO =>
 some wO.af.ao)
 : Option ((List UInt8))) >>= fun pz =>
 (
 (if (bits .and .i64 fW.aC 2) = 0 then
 some pz
 else
 ak (av.mk (aE.mk () pz)) ([[115, 116, 97, 116, 105, 99, 32]] : List aq) >>= fun wP =>
 some wP.af.ao)
 : Option ((List UInt8))) >>= fun sZ =>
 (if fW.ai = 54 then
 aI [36] fW.aj >>= fun Eg =>
 aI Eg [32, 61, 32] >>= fun Eh =>
 idx fW.ah 0 >>= fun Ei =>
 G95 (av.mk (aE.mk () sZ)) Eh Ei >>= fun AK =>
 ak AK ([[32]] : List aq) >>= fun AL =>
 bf ef AL.af.ao (aS (gy + 1))
 else
 G98 (av.mk (aE.mk () sZ)) fW >>= fun AM =>
 ak AM ([[32]] : List aq) >>= fun AN =>
 bf ef AN.af.ao (aS (gy + 1))))
 else
 some gX)
 ) = some o) : ca ef gX gy o
theorem nI {motive : (List ae) → (List UInt8) → Int → ((List UInt8)) → Prop} (step : ∀ (G95 : av → aq → ae → Option (av)) (aqZ : ∀ a0 a1 a2 r, G95 a0 a1 a2 = some r → FI a0 a1 a2 r) (G98 : av → ae → Option (av)) (aq0 : ∀ a0 a1 r, G98 a0 a1 = some r → FK a0 a1 r) (bf : (List ae) → (List UInt8) → Int → Option ((List UInt8))) (ow : ∀ ef gX gy o, bf ef gX gy = some o → ca ef gX gy o) (ef : List ae) (gX : List UInt8) (gy : Int) (o : (List UInt8)) (h : (
 (if gy < (ef.length : Int) then
 idx ef gy >>= fun fW =>
 (if fW.ai = 53 then
 ak (av.mk (aE.mk () gX)) ([[117, 115, 101, 32], fW.aj, [59, 32]] : List aq) >>= fun AJ =>
 bf ef AJ.af.ao (aS (gy + 1))
 else
 (
 (if (bits .and .i64 fW.aC 1) = 0 then
 some gX
 else
 ak (av.mk (aE.mk () gX)) ([[112, 114, 105, 118, 97, 116, 101, 32]] : List aq) >>= fun wO =>
 some wO.af.ao)
 : Option ((List UInt8))) >>= fun pz =>
 (
 (if (bits .and .i64 fW.aC 2) = 0 then
 some pz
 else
 ak (av.mk (aE.mk () pz)) ([[115, 116, 97, 116, 105, 99, 32]] : List aq) >>= fun wP =>
 some wP.af.ao)
 : Option ((List UInt8))) >>= fun sZ =>
 (if fW.ai = 54 then
 aI [36] fW.aj >>= fun Eg =>
 aI Eg [32, 61, 32] >>= fun Eh =>
 idx fW.ah 0 >>= fun Ei =>
 G95 (av.mk (aE.mk () sZ)) Eh Ei >>= fun AK =>
 ak AK ([[32]] : List aq) >>= fun AL =>
 bf ef AL.af.ao (aS (gy + 1))
 else
 G98 (av.mk (aE.mk () sZ)) fW >>= fun AM =>
 ak AM ([[32]] : List aq) >>= fun AN =>
 bf ef AN.af.ao (aS (gy + 1))))
 else
 some gX)
 ) = some o) (ih : ∀ ef gX gy o, bf ef gX gy = some o → motive ef gX gy o), motive ef gX gy o) : ∀ ef gX gy o, ca ef gX gy o → motive ef gX gy o :=
 fun ef gX gy o h => ca.rec (motive := fun ef gX gy o _ => motive ef gX gy o) step h
theorem rv : (∀ a0 a1 a2 r, aO a0 a1 a2 = some r → zb a0 a1 a2 r) ∧ (∀ a0 a1 r, gn a0 a1 = some r → VL a0 a1 r) ∧ (∀ a0 a1 r, fF a0 a1 = some r → Nn a0 a1 r) ∧ (∀ a0 a1 r, aY a0 a1 = some r → FH a0 a1 r) ∧ (∀ a1 jr jd o, dt a1 jr jd = some o → b8 a1 jr jd o) ∧ (∀ a0 a1 r, cN a0 a1 = some r → FJ a0 a1 r) ∧ (∀ a0 a1 a2 r, gR a0 a1 a2 = some r → VN a0 a1 a2 r) ∧ (∀ ef gX gy o, bN ef gX gy = some o → ca ef gX gy o) ∧ (∀ a0 a1 r, cA a0 a1 = some r → FK a0 a1 r) ∧ (∀ a0 a1 a2 r, cw a0 a1 a2 = some r → FI a0 a1 a2 r) ∧ (∀ a0 a1 r, ee a0 a1 = some r → VM a0 a1 r) ∧ (∀ fV iB ie o, bR fV iB ie = some o → cD fV iB ie o) ∧ (∀ a0 a1 r, dx a0 a1 = some r → Nk a0 a1 r) ∧ (∀ a1 iz gK o, cR a1 iz gK = some o → cq a1 iz gK o) ∧ (∀ a0 a1 a2 a3 a4 r, bC a0 a1 a2 a3 a4 = some r → AO a0 a1 a2 a3 a4 r) ∧ (∀ a0 a1 r, jQ a0 a1 = some r → Nl a0 a1 r) ∧ (∀ a1 iA gG o, cU a1 iA gG = some o → cr a1 iA gG o) := by
 refine aO.mutual_partial_correctness zb VL Nn FH b8 FJ VN ca FK FI VM cD Nk cq AO Nl cr ?_ ?_ ?_ ?_ ?_ ?_ ?_ ?_ ?_ ?_ ?_ ?_ ?_ ?_ ?_ ?_ ?_
 intro _ VO a0 a1 a2 r h g1000 g1001
 refine gq Tryz.func46 ?_
 refine .d (.d (.d ⟨rfl, _, rfl, (bk h fun v1 mq h => (aR (AP mq) (sD h (fun oV h => ?_) (fun oV h => ?_))))⟩))
 refine .d ⟨row cS ([[40]] : List aq), aD cS ([[40]] : List aq) rfl (aB rfl), (bk h fun v4 vW h => (cp (aw (g1000 := g1000) (g1001 := g1001) (g1002 := 0) vW) [0, 1, 3] ⟨cz, ov, ov, ⟨⟩⟩ ?_))⟩
 rintro _ _ ⟨g6, g7, rfl, rfl⟩
 refine ⟨.aV [], [.row g1000 2 1 51 (fun _ => [aM g6 0 g1000, .own 1 g6 0 v4.af.ao.length]), .row g6 1 v4.af.ao.length 5 (row cB v4.af.ao), .row 0 4 1 29 (fun _ => a1.lit), .row g7 1 ([[40]] : List aq).length 9 (row cS ([[40]] : List aq))], rfl, avi, (.d ⟨rfl, _, rfl, (bk h fun v8 hv9 h => (cQ (VO _ _ _ hv9 _ _) [0, 1] ⟨cz, ov, ⟨⟩⟩ (fun g10 => .aV []) (fun g10 => [.row g1000 2 1 51 (fun _ => [aM g10 0 g1000, .own 1 g10 0 v8.af.ao.length]), .row g10 1 v8.af.ao.length 5 (row cB v8.af.ao), .row 0 4 1 29 (fun _ => a1.lit), .row g7 1 ([[40]] : List aq).length 9 (row cS ([[40]] : List aq))]) fun g10 => (.d ⟨row cS ([[41]] : List aq), aD cS ([[41]] : List aq) rfl (aB rfl), (bk h fun v11 D1 h => (cp (aw (g1000 := g1000) (g1001 := g10) (g1002 := 0) D1) [0, 1, 4] ⟨cz, ov, ov, ⟨⟩⟩ ?_))⟩)))⟩)⟩
 rintro _ _ ⟨g13, g14, rfl, rfl⟩
 refine ⟨.aV [], [.row g1000 2 1 51 (fun _ => [aM g13 0 g1000, .own 1 g13 0 v11.af.ao.length]), .row g13 1 v11.af.ao.length 5 (row cB v11.af.ao), .row 0 4 1 29 (fun _ => a1.lit), .row g7 1 ([[40]] : List aq).length 9 (row cS ([[40]] : List aq)), .row g14 1 ([[41]] : List aq).length 9 (row cS ([[41]] : List aq))], rfl, avi, ?_⟩
 obtain rfl := si h
 exact en [0, 1] ⟨g13, rfl, rfl⟩ (.bu ⟨⟩) ⟨(ob rfl ⟨.aM, .o, ⟨⟩⟩), od, ⟨⟩⟩
 refine ⟨rfl, _, rfl, (bk h fun xN Dd h => (cQ (VO _ _ _ Dd _ _) [0, 1] ⟨cz, ov, ⟨⟩⟩ (fun g17 => .aV []) (fun g17 => [.row g1000 2 1 51 (fun _ => [aM g17 0 g1000, .own 1 g17 0 xN.af.ao.length]), .row g17 1 xN.af.ao.length 5 (row cB xN.af.ao), .row 0 4 1 29 (fun _ => a1.lit)]) fun g17 => ?_))⟩
 obtain rfl := si h
 exact en [0, 1] ⟨g17, rfl, rfl⟩ (.bu ⟨⟩) ⟨(ob rfl ⟨.aM, .o, ⟨⟩⟩), od, ⟨⟩⟩
 intro _ _ _ _ _ kO abL xf rz abM a0 a1 r h g1000 g1001
 refine gq Tryz.func93 ?_
 refine .d (.d ⟨rfl, ⟨rfl, _, rfl, (.d (sE h (fun sf h => ?_) (fun sf h => ?_)))⟩⟩)
 refine ⟨rfl, ⟨rfl, _, rfl, (bk h fun u6 zT h => (aR (wv zT) ⟨row cS ([u6] : List aq), aD cS ([u6] : List aq) rfl (aB rfl), (bk h fun v21 Nq h => (cp (aw (g1000 := g1000) (g1001 := g1001) (g1002 := 0) Nq) [0, 1, 3] ⟨cz, ov, ov, ⟨⟩⟩ ?_))⟩))⟩⟩
 rintro _ _ ⟨g23, g24, rfl, rfl⟩
 refine ⟨.aV [], [.row g1000 2 1 51 (fun _ => [aM g23 0 g1000, .own 1 g23 0 v21.af.ao.length]), .row g23 1 v21.af.ao.length 5 (row cB v21.af.ao), .row 0 4 1 29 (fun _ => a1.lit), .row g24 1 ([u6] : List aq).length 9 (row cS ([u6] : List aq))], rfl, avi, ?_⟩
 obtain rfl := si h
 exact en [0, 1] ⟨g23, rfl, rfl⟩ (.bu ⟨⟩) ⟨(ob rfl ⟨.aM, .o, ⟨⟩⟩), od, ⟨⟩⟩
 refine .d (sE h (fun GY h => ?_) (fun GY h => ?_))
 refine ⟨rfl, ⟨rfl, _, rfl, (bk h fun Iw abl h => (aR (pL abl) ⟨row cS ([Iw] : List aq), aD cS ([Iw] : List aq) rfl (aB rfl), (bk h fun v28 aq1 h => (cp (aw (g1000 := g1000) (g1001 := g1001) (g1002 := 0) aq1) [0, 1, 3] ⟨cz, ov, ov, ⟨⟩⟩ ?_))⟩))⟩⟩
 rintro _ _ ⟨g30, g31, rfl, rfl⟩
 refine ⟨.aV [], [.row g1000 2 1 51 (fun _ => [aM g30 0 g1000, .own 1 g30 0 v28.af.ao.length]), .row g30 1 v28.af.ao.length 5 (row cB v28.af.ao), .row 0 4 1 29 (fun _ => a1.lit), .row g31 1 ([Iw] : List aq).length 9 (row cS ([Iw] : List aq))], rfl, avi, ?_⟩
 obtain rfl := si h
 exact en [0, 1] ⟨g30, rfl, rfl⟩ (.bu ⟨⟩) ⟨(ob rfl ⟨.aM, .o, ⟨⟩⟩), od, ⟨⟩⟩
 refine .d (sE h (fun zK h => ?_) (fun zK h => ?_))
 refine ⟨row cS ([[110, 117, 108, 108], [102, 97, 108, 115, 101], [116, 114, 117, 101]] : List aq), aD cS ([[110, 117, 108, 108], [102, 97, 108, 115, 101], [116, 114, 117, 101]] : List aq) rfl (aB rfl), ⟨rfl, ⟨rfl, _, rfl, (bk h fun OP J0 h => ⟨rfl, aA J0, _, asN _, ⟨rfl, _, ((ax J0).trans rfl), ⟨row cS ([OP] : List aq), aD cS ([OP] : List aq) rfl (aB rfl), (bk h fun xS Dn h => (cp (aw (g1000 := g1000) (g1001 := g1001) (g1002 := 0) Dn) [0, 1, 4] ⟨cz, ov, ov, ⟨⟩⟩ ?_))⟩⟩⟩)⟩⟩⟩
 rintro _ _ ⟨QD, g38, rfl, rfl⟩
 refine ⟨.aV [], [.row g1000 2 1 51 (fun _ => [aM QD 0 g1000, .own 1 QD 0 xS.af.ao.length]), .row QD 1 xS.af.ao.length 5 (row cB xS.af.ao), .row 0 4 1 29 (fun _ => a1.lit), .row 0 1 ([[110, 117, 108, 108], [102, 97, 108, 115, 101], [116, 114, 117, 101]] : List aq).length 9 (row cS ([[110, 117, 108, 108], [102, 97, 108, 115, 101], [116, 114, 117, 101]] : List aq)), .row g38 1 ([OP] : List aq).length 9 (row cS ([OP] : List aq))], rfl, avi, ?_⟩
 obtain rfl := si h
 exact en [0, 1] ⟨QD, rfl, rfl⟩ (.bu ⟨⟩) ⟨(ob rfl ⟨.aM, .o, ⟨⟩⟩), od, ⟨⟩⟩
 refine .d (sE h (fun wh h => ?_) (fun wh h => ?_))
 refine ⟨rfl, ⟨rfl, _, rfl, ⟨row cS ([[36], a1.aj] : List aq), aD cS ([[36], a1.aj] : List aq) rfl (aB rfl), (bk h fun v40 KT h => (cp (aw (g1000 := g1000) (g1001 := g1001) (g1002 := 0) KT) [0, 1, 3] ⟨cz, ov, ov, ⟨⟩⟩ ?_))⟩⟩⟩
 rintro _ _ ⟨g42, g43, rfl, rfl⟩
 refine ⟨.aV [], [.row g1000 2 1 51 (fun _ => [aM g42 0 g1000, .own 1 g42 0 v40.af.ao.length]), .row g42 1 v40.af.ao.length 5 (row cB v40.af.ao), .row 0 4 1 29 (fun _ => a1.lit), .row g43 1 ([[36], a1.aj] : List aq).length 9 (row cS ([[36], a1.aj] : List aq))], rfl, avi, ?_⟩
 obtain rfl := si h
 exact en [0, 1] ⟨g42, rfl, rfl⟩ (.bu ⟨⟩) ⟨(ob rfl ⟨.aM, .o, ⟨⟩⟩), od, ⟨⟩⟩
 refine .d (sE h (fun aq2 h => ?_) (fun aq2 h => ?_))
 refine ⟨rfl, _, rfl, (bk h fun E0 Lg h => (cQ (abM _ _ _ Lg _ _) [0, 1] ⟨cz, ov, ⟨⟩⟩ (fun Mi => .aV []) (fun Mi => [.row g1000 2 1 51 (fun _ => [aM Mi 0 g1000, .own 1 Mi 0 E0.af.ao.length]), .row Mi 1 E0.af.ao.length 5 (row cB E0.af.ao), .row 0 4 1 29 (fun _ => a1.lit)]) fun Mi => ?_))⟩
 obtain rfl := si h
 exact en [0, 1] ⟨Mi, rfl, rfl⟩ (.bu ⟨⟩) ⟨(ob rfl ⟨.aM, .o, ⟨⟩⟩), od, ⟨⟩⟩
 refine .d (sE h (fun Z3 h => ?_) (fun Z3 h => ?_))
 refine .d ⟨rfl, ⟨rfl, _, rfl, (bk h fun x49 Kf h => ⟨aA Kf, _, (ax Kf).trans (ae.au x49), (bk h fun v51 aq3 h => (cQ (kO _ _ _ _ aq3 _ _) [0, 1] ⟨cz, ov, ⟨⟩⟩ (fun g53 => .aV []) (fun g53 => [.row g1000 2 1 51 (fun _ => [aM g53 0 g1000, .own 1 g53 0 v51.af.ao.length]), .row g53 1 v51.af.ao.length 5 (row cB v51.af.ao), .row 0 4 1 29 (fun _ => a1.lit)]) fun g53 => (.d ⟨row cS ([[91]] : List aq), aD cS ([[91]] : List aq) rfl (aB rfl), (bk h fun VI abN h => (cp (aw (g1000 := g1000) (g1001 := g53) (g1002 := 0) abN) [0, 1, 3] ⟨cz, ov, ov, ⟨⟩⟩ ?_))⟩)))⟩)⟩⟩
 rintro _ _ ⟨g56, g57, rfl, rfl⟩
 refine ⟨.aV [], [.row g1000 2 1 51 (fun _ => [aM g56 0 g1000, .own 1 g56 0 VI.af.ao.length]), .row g56 1 VI.af.ao.length 5 (row cB VI.af.ao), .row 0 4 1 29 (fun _ => a1.lit), .row g57 1 ([[91]] : List aq).length 9 (row cS ([[91]] : List aq))], rfl, avi, (.d ⟨rfl, ⟨rfl, _, rfl, (bk h fun x58 ak0 h => ⟨aA ak0, _, (ax ak0).trans (ae.au x58), (bk h fun VJ abO h => (cQ (kO _ _ _ _ abO _ _) [0, 1] ⟨cz, ov, ⟨⟩⟩ (fun g62 => .aV []) (fun g62 => [.row g1000 2 1 51 (fun _ => [aM g62 0 g1000, .own 1 g62 0 VJ.af.ao.length]), .row g62 1 VJ.af.ao.length 5 (row cB VJ.af.ao), .row 0 4 1 29 (fun _ => a1.lit), .row g57 1 ([[91]] : List aq).length 9 (row cS ([[91]] : List aq))]) fun g62 => ⟨row cS ([[93]] : List aq), aD cS ([[93]] : List aq) rfl (aB rfl), (bk h fun KH KV h => (cp (aw (g1000 := g1000) (g1001 := g62) (g1002 := 0) KV) [0, 1, 4] ⟨cz, ov, ov, ⟨⟩⟩ ?_))⟩))⟩)⟩⟩)⟩
 rintro _ _ ⟨g65, g66, rfl, rfl⟩
 refine ⟨.aV [], [.row g1000 2 1 51 (fun _ => [aM g65 0 g1000, .own 1 g65 0 KH.af.ao.length]), .row g65 1 KH.af.ao.length 5 (row cB KH.af.ao), .row 0 4 1 29 (fun _ => a1.lit), .row g57 1 ([[91]] : List aq).length 9 (row cS ([[91]] : List aq)), .row g66 1 ([[93]] : List aq).length 9 (row cS ([[93]] : List aq))], rfl, avi, ?_⟩
 obtain rfl := si h
 exact en [0, 1] ⟨g65, rfl, rfl⟩ (.bu ⟨⟩) ⟨(ob rfl ⟨.aM, .o, ⟨⟩⟩), od, ⟨⟩⟩
 refine .d (sE h (fun aaJ h => ?_) (fun aaJ h => ?_))
 refine .d ⟨rfl, ⟨rfl, _, rfl, (bk h fun x68 ak1 h => ⟨aA ak1, _, (ax ak1).trans (ae.au x68), (bk h fun v70 aq4 h => (cQ (kO _ _ _ _ aq4 _ _) [0, 1] ⟨cz, ov, ⟨⟩⟩ (fun g72 => .aV []) (fun g72 => [.row g1000 2 1 51 (fun _ => [aM g72 0 g1000, .own 1 g72 0 v70.af.ao.length]), .row g72 1 v70.af.ao.length 5 (row cB v70.af.ao), .row 0 4 1 29 (fun _ => a1.lit)]) fun g72 => ⟨rfl, ⟨rfl, _, rfl, ⟨row cS ([[45, 62], a1.aj] : List aq), aD cS ([[45, 62], a1.aj] : List aq) rfl (aB rfl), (bk h fun v73 aq5 h => (cp (aw (g1000 := g1000) (g1001 := g72) (g1002 := 0) aq5) [0, 1, 3] ⟨cz, ov, ov, ⟨⟩⟩ ?_))⟩⟩⟩))⟩)⟩⟩
 rintro _ _ ⟨g75, g76, rfl, rfl⟩
 refine ⟨.aV [], [.row g1000 2 1 51 (fun _ => [aM g75 0 g1000, .own 1 g75 0 v73.af.ao.length]), .row g75 1 v73.af.ao.length 5 (row cB v73.af.ao), .row 0 4 1 29 (fun _ => a1.lit), .row g76 1 ([[45, 62], a1.aj] : List aq).length 9 (row cS ([[45, 62], a1.aj] : List aq))], rfl, avi, ?_⟩
 obtain rfl := si h
 exact en [0, 1] ⟨g75, rfl, rfl⟩ (.bu ⟨⟩) ⟨(ob rfl ⟨.aM, .o, ⟨⟩⟩), od, ⟨⟩⟩
 refine .d (sE h (fun XA h => ?_) (fun XA h => ?_))
 refine .d ⟨row cS ([[], [33], [45]] : List aq), aD cS ([[], [33], [45]] : List aq) rfl (aB rfl), ⟨rfl, ⟨rfl, _, rfl, (bk h fun VK ak2 h => ⟨rfl, aA ak2, _, asN _, ⟨rfl, _, ((ax ak2).trans rfl), ⟨row cS ([VK] : List aq), aD cS ([VK] : List aq) rfl (aB rfl), (bk h fun v80 aq6 h => (cp (aw (g1000 := g1000) (g1001 := g1001) (g1002 := 0) aq6) [0, 1, 4] ⟨cz, ov, ov, ⟨⟩⟩ ?_))⟩⟩⟩)⟩⟩⟩
 rintro _ _ ⟨g82, g83, rfl, rfl⟩
 refine ⟨.aV [], [.row g1000 2 1 51 (fun _ => [aM g82 0 g1000, .own 1 g82 0 v80.af.ao.length]), .row g82 1 v80.af.ao.length 5 (row cB v80.af.ao), .row 0 4 1 29 (fun _ => a1.lit), .row 0 1 ([[], [33], [45]] : List aq).length 9 (row cS ([[], [33], [45]] : List aq)), .row g83 1 ([VK] : List aq).length 9 (row cS ([VK] : List aq))], rfl, avi, ⟨rfl, ⟨rfl, _, rfl, (bk h fun x84 Kh h => ⟨aA Kh, _, (ax Kh).trans (ae.au x84), (bk h fun v86 aq7 h => (cQ (kO _ _ _ _ aq7 _ _) [0, 1] ⟨cz, ov, ⟨⟩⟩ (fun g88 => .aV []) (fun g88 => [.row g1000 2 1 51 (fun _ => [aM g88 0 g1000, .own 1 g88 0 v86.af.ao.length]), .row g88 1 v86.af.ao.length 5 (row cB v86.af.ao), .row 0 4 1 29 (fun _ => a1.lit), .row 0 1 ([[], [33], [45]] : List aq).length 9 (row cS ([[], [33], [45]] : List aq)), .row g83 1 ([VK] : List aq).length 9 (row cS ([VK] : List aq))]) fun g88 => ?_))⟩)⟩⟩⟩
 obtain rfl := si h
 exact en [0, 1] ⟨g88, rfl, rfl⟩ (.bu ⟨⟩) ⟨(ob rfl ⟨.aM, .o, ⟨⟩⟩), od, ⟨⟩⟩
 refine .d (sE h (fun aaD h => ?_) (fun aaD h => ?_))
 refine .d ⟨rfl, ⟨rfl, _, rfl, (bk h fun v90 aaE h => (aR (s7 aaE) (.float [(0, true), (1, true), (2, true), (3, true), (4, true), (8, true), (9, true), (5, false), (6, true), (7, true), (10, false)] avs ?_)))⟩⟩
 refine ⟨rfl, _, rfl, ⟨rfl, ⟨rfl, _, rfl, (bk h fun v92 aq8 h => (aR (ym aq8) ⟨rfl, (bk h fun s94 ak3 h => ⟨ay ak3, s94, az ak3, (bk h fun s96 Ki h => ⟨ay Ki, s96, az Ki, (bk h fun Sv Z7 h => (cQ (rz _ _ _ _ _ _ Z7 _ _) [0, 1] ⟨cz, ov, ⟨⟩⟩ (fun G9 => .aV []) (fun G9 => [.row g1000 2 1 51 (fun _ => [aM G9 0 g1000, .own 1 G9 0 Sv.af.ao.length]), .row G9 1 Sv.af.ao.length 5 (row cB Sv.af.ao), .row 0 4 1 29 (fun _ => a1.lit)]) fun G9 => ?_))⟩)⟩)⟩))⟩⟩⟩
 obtain rfl := si h
 exact en [0, 1] ⟨G9, rfl, rfl⟩ (.bu ⟨⟩) ⟨(ob rfl ⟨.aM, .o, ⟨⟩⟩), od, ⟨⟩⟩
 refine .d (sE h (fun Ji h => ?_) (fun Ji h => ?_))
 refine ⟨rfl, _, rfl, (bk h fun Ml ak4 h => (cQ (rz _ _ _ _ _ _ ak4 _ _) [0, 1] ⟨cz, ov, ⟨⟩⟩ (fun Ha => .aV []) (fun Ha => [.row g1000 2 1 51 (fun _ => [aM Ha 0 g1000, .own 1 Ha 0 Ml.af.ao.length]), .row Ha 1 Ml.af.ao.length 5 (row cB Ml.af.ao), .row 0 4 1 29 (fun _ => a1.lit)]) fun Ha => ?_))⟩
 obtain rfl := si h
 exact en [0, 1] ⟨Ha, rfl, rfl⟩ (.bu ⟨⟩) ⟨(ob rfl ⟨.aM, .o, ⟨⟩⟩), od, ⟨⟩⟩
 refine .d (sE h (fun KW h => ?_) (fun KW h => ?_))
 refine ⟨rfl, _, rfl, (bk h fun Mm ak5 h => (cQ (rz _ _ _ _ _ _ ak5 _ _) [0, 1] ⟨cz, ov, ⟨⟩⟩ (fun Hb => .aV []) (fun Hb => [.row g1000 2 1 51 (fun _ => [aM Hb 0 g1000, .own 1 Hb 0 Mm.af.ao.length]), .row Hb 1 Mm.af.ao.length 5 (row cB Mm.af.ao), .row 0 4 1 29 (fun _ => a1.lit)]) fun Hb => ?_))⟩
 obtain rfl := si h
 exact en [0, 1] ⟨Hb, rfl, rfl⟩ (.bu ⟨⟩) ⟨(ob rfl ⟨.aM, .o, ⟨⟩⟩), od, ⟨⟩⟩
 refine .d (sE h (fun Bn h => ?_) (fun Bn h => ?_))
 refine ⟨rfl, _, rfl, (bk h fun Mn ak6 h => (cQ (rz _ _ _ _ _ _ ak6 _ _) [0, 1] ⟨cz, ov, ⟨⟩⟩ (fun Hc => .aV []) (fun Hc => [.row g1000 2 1 51 (fun _ => [aM Hc 0 g1000, .own 1 Hc 0 Mn.af.ao.length]), .row Hc 1 Mn.af.ao.length 5 (row cB Mn.af.ao), .row 0 4 1 29 (fun _ => a1.lit)]) fun Hc => ?_))⟩
 obtain rfl := si h
 exact en [0, 1] ⟨Hc, rfl, rfl⟩ (.bu ⟨⟩) ⟨(ob rfl ⟨.aM, .o, ⟨⟩⟩), od, ⟨⟩⟩
 refine .d (sE h (fun ak7 h => ?_) (fun ak7 h => ?_))
 refine .d ⟨rfl, _, rfl, (bk h fun Mo ak8 h => (cQ (rz _ _ _ _ _ _ ak8 _ _) [0, 1] ⟨cz, ov, ⟨⟩⟩ (fun Hd => .aV []) (fun Hd => [.row g1000 2 1 51 (fun _ => [aM Hd 0 g1000, .own 1 Hd 0 Mo.af.ao.length]), .row Hd 1 Mo.af.ao.length 5 (row cB Mo.af.ao), .row 0 4 1 29 (fun _ => a1.lit)]) fun Hd => (.d ⟨row cS ([[32, 58, 32]] : List aq), aD cS ([[32, 58, 32]] : List aq) rfl (aB rfl), (bk h fun v117 ak9 h => (cp (aw (g1000 := g1000) (g1001 := Hd) (g1002 := 0) ak9) [0, 1, 3] ⟨cz, ov, ov, ⟨⟩⟩ ?_))⟩)))⟩
 rintro _ _ ⟨abP, ala, rfl, rfl⟩
 refine ⟨.aV [], [.row g1000 2 1 51 (fun _ => [aM abP 0 g1000, .own 1 abP 0 v117.af.ao.length]), .row abP 1 v117.af.ao.length 5 (row cB v117.af.ao), .row 0 4 1 29 (fun _ => a1.lit), .row ala 1 ([[32, 58, 32]] : List aq).length 9 (row cS ([[32, 58, 32]] : List aq))], rfl, avi, ⟨rfl, ⟨rfl, _, rfl, (bk h fun abn VP h => ⟨aA VP, _, (ax VP).trans (ae.au abn), (bk h fun Mp alb h => (cQ (kO _ _ _ _ alb _ _) [0, 1] ⟨cz, ov, ⟨⟩⟩ (fun He => .aV []) (fun He => [.row g1000 2 1 51 (fun _ => [aM He 0 g1000, .own 1 He 0 Mp.af.ao.length]), .row He 1 Mp.af.ao.length 5 (row cB Mp.af.ao), .row 0 4 1 29 (fun _ => a1.lit), .row ala 1 ([[32, 58, 32]] : List aq).length 9 (row cS ([[32, 58, 32]] : List aq))]) fun He => ?_))⟩)⟩⟩⟩
 obtain rfl := si h
 exact en [0, 1] ⟨He, rfl, rfl⟩ (.bu ⟨⟩) ⟨(ob rfl ⟨.aM, .o, ⟨⟩⟩), od, ⟨⟩⟩
 refine .d (sE h (fun Kl h => ?_) (fun Kl h => ?_))
 refine ⟨rfl, _, rfl, (bk h fun v127 alc h => (cQ (rz _ _ _ _ _ _ alc _ _) [0, 1] ⟨cz, ov, ⟨⟩⟩ (fun Hf => .aV []) (fun Hf => [.row g1000 2 1 51 (fun _ => [aM Hf 0 g1000, .own 1 Hf 0 v127.af.ao.length]), .row Hf 1 v127.af.ao.length 5 (row cB v127.af.ao), .row 0 4 1 29 (fun _ => a1.lit)]) fun Hf => ?_))⟩
 obtain rfl := si h
 exact en [0, 1] ⟨Hf, rfl, rfl⟩ (.bu ⟨⟩) ⟨(ob rfl ⟨.aM, .o, ⟨⟩⟩), od, ⟨⟩⟩
 refine .d (sE h (fun ald h => ?_) (fun ald h => ?_))
 refine ⟨rfl, _, rfl, (bk h fun v131 JU h => (cQ (rz _ _ _ _ _ _ JU _ _) [0, 1] ⟨cz, ov, ⟨⟩⟩ (fun Hg => .aV []) (fun Hg => [.row g1000 2 1 51 (fun _ => [aM Hg 0 g1000, .own 1 Hg 0 v131.af.ao.length]), .row Hg 1 v131.af.ao.length 5 (row cB v131.af.ao), .row 0 4 1 29 (fun _ => a1.lit)]) fun Hg => ?_))⟩
 obtain rfl := si h
 exact en [0, 1] ⟨Hg, rfl, rfl⟩ (.bu ⟨⟩) ⟨(ob rfl ⟨.aM, .o, ⟨⟩⟩), od, ⟨⟩⟩
 refine .d (sE h (fun KX h => ?_) (fun KX h => ?_))
 refine .float [(0, true), (1, true), (2, true), (3, true), (4, true), (5, true), (6, true), (7, true), (8, false), (9, false)] avs ?_
 refine ⟨rfl, ⟨rfl, _, rfl, ⟨rfl, ⟨rfl, _, rfl, (bk h fun D2 BE h => ⟨aA BE, _, (ax BE).trans (ae.au D2), ⟨row cS ([[36], a1.aj, [32, 61, 32, 38, 36], D2.aj] : List aq), aD cS ([[36], a1.aj, [32, 61, 32, 38, 36], D2.aj] : List aq) rfl (aB rfl), (bk h fun Mq ale h => (cp (aw (g1000 := g1000) (g1001 := g1001) (g1002 := 0) ale) [0, 1, 3] ⟨cz, ov, ov, ⟨⟩⟩ ?_))⟩⟩)⟩⟩⟩⟩
 rintro _ _ ⟨QI, aq9, rfl, rfl⟩
 refine ⟨.aV [], [.row g1000 2 1 51 (fun _ => [aM QI 0 g1000, .own 1 QI 0 Mq.af.ao.length]), .row QI 1 Mq.af.ao.length 5 (row cB Mq.af.ao), .row 0 4 1 29 (fun _ => a1.lit), .row aq9 1 ([[36], a1.aj, [32, 61, 32, 38, 36], D2.aj] : List aq).length 9 (row cS ([[36], a1.aj, [32, 61, 32, 38, 36], D2.aj] : List aq))], rfl, avi, ?_⟩
 obtain rfl := si h
 exact en [0, 1] ⟨QI, rfl, rfl⟩ (.bu ⟨⟩) ⟨(ob rfl ⟨.aM, .o, ⟨⟩⟩), od, ⟨⟩⟩
 obtain ⟨ara, alf, alg⟩ := bd h
 replace h := alf
 refine .cut (fun σ η => ∃ Mr, Mr = ara ∧ σ = [(0, .aL 0 g1000 0 0), (3, .aL 2 0 0 0), (6, .int .i64 a1.ai), (161, .bool Mr)] ∧ η = [.row g1000 2 1 51 (fun _ => [aM g1001 0 g1000, .own 1 g1001 0 a0.af.ao.length]), .row g1001 1 a0.af.ao.length 5 (row cB a0.af.ao), .row 0 4 1 29 (fun _ => a1.lit)]) ?_ ?_
 refine .d (sE h (fun KY h => ?_) (fun KY h => ?_))
 exact ct ⟨_, si h, rfl, rfl⟩ (tk [0, 1, 2] ⟨.p, .p, .i, .b, ⟨⟩⟩ ⟨(ob rfl ⟨.aM, .o, ⟨⟩⟩), od, (bZ rfl), ⟨⟩⟩)
 exact ct ⟨_, si h, rfl, rfl⟩ (tk [0, 1, 2] ⟨.p, .p, .i, .b, ⟨⟩⟩ ⟨(ob rfl ⟨.aM, .o, ⟨⟩⟩), od, (bZ rfl), ⟨⟩⟩)
 rintro _ _ ⟨Mr, rfl, rfl, rfl⟩
 replace h := alg
 refine sV h (fun Bo h => ?_) (fun Bo h => ?_)
 refine .d ⟨rfl, ⟨rfl, _, rfl, ⟨row cS ([a1.aj] : List aq), aD cS ([a1.aj] : List aq) rfl (aB rfl), (bk h fun BV KZ h => (cp (aw (g1000 := g1000) (g1001 := g1001) (g1002 := 0) KZ) [0, 1, 3] ⟨cz, ov, ov, ⟨⟩⟩ ?_))⟩⟩⟩
 rintro _ _ ⟨abQ, alh, rfl, rfl⟩
 refine ⟨.aV [], [.row g1000 2 1 51 (fun _ => [aM abQ 0 g1000, .own 1 abQ 0 BV.af.ao.length]), .row abQ 1 BV.af.ao.length 5 (row cB BV.af.ao), .row 0 4 1 29 (fun _ => a1.lit), .row alh 1 ([a1.aj] : List aq).length 9 (row cS ([a1.aj] : List aq))], rfl, avi, ⟨rfl, ⟨rfl, _, rfl, (bk h fun Ms ali h => (cQ (xf _ _ _ ali _ _) [0, 1] ⟨cz, ov, ⟨⟩⟩ (fun Hh => .aV []) (fun Hh => [.row g1000 2 1 51 (fun _ => [aM Hh 0 g1000, .own 1 Hh 0 Ms.af.ao.length]), .row Hh 1 Ms.af.ao.length 5 (row cB Ms.af.ao), .row 0 4 1 29 (fun _ => a1.lit), .row alh 1 ([a1.aj] : List aq).length 9 (row cS ([a1.aj] : List aq))]) fun Hh => ?_))⟩⟩⟩
 obtain rfl := si h
 exact en [0, 1] ⟨Hh, rfl, rfl⟩ (.bu ⟨⟩) ⟨(ob rfl ⟨.aM, .o, ⟨⟩⟩), od, ⟨⟩⟩
 refine .d (sE h (fun Bp h => ?_) (fun Bp h => ?_))
 refine .d ⟨rfl, ⟨rfl, _, rfl, ⟨row cS ([[110, 101, 119, 32], a1.aj] : List aq), aD cS ([[110, 101, 119, 32], a1.aj] : List aq) rfl (aB rfl), (bk h fun wm BF h => (cp (aw (g1000 := g1000) (g1001 := g1001) (g1002 := 0) BF) [0, 1, 3] ⟨cz, ov, ov, ⟨⟩⟩ ?_))⟩⟩⟩
 rintro _ _ ⟨abR, alj, rfl, rfl⟩
 refine ⟨.aV [], [.row g1000 2 1 51 (fun _ => [aM abR 0 g1000, .own 1 abR 0 wm.af.ao.length]), .row abR 1 wm.af.ao.length 5 (row cB wm.af.ao), .row 0 4 1 29 (fun _ => a1.lit), .row alj 1 ([[110, 101, 119, 32], a1.aj] : List aq).length 9 (row cS ([[110, 101, 119, 32], a1.aj] : List aq))], rfl, avi, ⟨rfl, ⟨rfl, _, rfl, (bk h fun v159 Jp h => (cQ (xf _ _ _ Jp _ _) [0, 1] ⟨cz, ov, ⟨⟩⟩ (fun Hi => .aV []) (fun Hi => [.row g1000 2 1 51 (fun _ => [aM Hi 0 g1000, .own 1 Hi 0 v159.af.ao.length]), .row Hi 1 v159.af.ao.length 5 (row cB v159.af.ao), .row 0 4 1 29 (fun _ => a1.lit), .row alj 1 ([[110, 101, 119, 32], a1.aj] : List aq).length 9 (row cS ([[110, 101, 119, 32], a1.aj] : List aq))]) fun Hi => ?_))⟩⟩⟩
 obtain rfl := si h
 exact en [0, 1] ⟨Hi, rfl, rfl⟩ (.bu ⟨⟩) ⟨(ob rfl ⟨.aM, .o, ⟨⟩⟩), od, ⟨⟩⟩
 refine .d (sE h (fun Bq h => ?_) (fun Bq h => ?_))
 refine .d ⟨rfl, ⟨rfl, _, rfl, (bk h fun abo VQ h => ⟨aA VQ, _, (ax VQ).trans (ae.au abo), (bk h fun vX Br h => (cQ (kO _ _ _ _ Br _ _) [0, 1] ⟨cz, ov, ⟨⟩⟩ (fun Hj => .aV []) (fun Hj => [.row g1000 2 1 51 (fun _ => [aM Hj 0 g1000, .own 1 Hj 0 vX.af.ao.length]), .row Hj 1 vX.af.ao.length 5 (row cB vX.af.ao), .row 0 4 1 29 (fun _ => a1.lit)]) fun Hj => (.d ⟨rfl, ⟨rfl, _, rfl, ⟨row cS ([[45, 62], a1.aj] : List aq), aD cS ([[45, 62], a1.aj] : List aq) rfl (aB rfl), (bk h fun v168 Bs h => (cp (aw (g1000 := g1000) (g1001 := Hj) (g1002 := 0) Bs) [0, 1, 3] ⟨cz, ov, ov, ⟨⟩⟩ ?_))⟩⟩⟩)))⟩)⟩⟩
 rintro _ _ ⟨abS, alk, rfl, rfl⟩
 refine ⟨.aV [], [.row g1000 2 1 51 (fun _ => [aM abS 0 g1000, .own 1 abS 0 v168.af.ao.length]), .row abS 1 v168.af.ao.length 5 (row cB v168.af.ao), .row 0 4 1 29 (fun _ => a1.lit), .row alk 1 ([[45, 62], a1.aj] : List aq).length 9 (row cS ([[45, 62], a1.aj] : List aq))], rfl, avi, ⟨rfl, ⟨rfl, _, rfl, (bk h fun QE Nr h => ⟨trivial, ir Nr, QE.length, row ae.cells QE, gh Nr, gl Nr, (bk h fun Bl Jt h => (cQ (xf _ _ _ Jt _ _) [0, 1] ⟨cz, ov, ⟨⟩⟩ (fun Hk => .aV []) (fun Hk => [.row g1000 2 1 51 (fun _ => [aM Hk 0 g1000, .own 1 Hk 0 Bl.af.ao.length]), .row Hk 1 Bl.af.ao.length 5 (row cB Bl.af.ao), .row 0 4 1 29 (fun _ => a1.lit), .row alk 1 ([[45, 62], a1.aj] : List aq).length 9 (row cS ([[45, 62], a1.aj] : List aq))]) fun Hk => ?_))⟩)⟩⟩⟩
 obtain rfl := si h
 exact en [0, 1] ⟨Hk, rfl, rfl⟩ (.bu ⟨⟩) ⟨(ob rfl ⟨.aM, .o, ⟨⟩⟩), od, ⟨⟩⟩
 refine .d (sE h (fun alm h => ?_) (fun alm h => ?_))
 refine .d (.d ⟨rfl, ⟨rfl, _, rfl, (bk h fun abp VR h => ⟨aA VR, _, (ax VR).trans (ae.au abp), (sE h (fun Bt h => ?_) (fun Bt h => ?_))⟩)⟩⟩)
 refine ⟨rfl, ⟨rfl, _, rfl, (bk h fun ri B1 h => ⟨aA B1, _, (ax B1).trans (ae.au ri), (bk h fun v183 Le h => (cQ (kO _ _ _ _ Le _ _) [0, 1] ⟨cz, ov, ⟨⟩⟩ (fun Ns => .aV []) (fun Ns => [.row g1000 2 1 51 (fun _ => [aM Ns 0 g1000, .own 1 Ns 0 v183.af.ao.length]), .row Ns 1 v183.af.ao.length 5 (row cB v183.af.ao), .row 0 4 1 29 (fun _ => a1.lit)]) fun Ns => ⟨rfl, ⟨rfl, _, rfl, (bk h fun QF yH h => ⟨trivial, ir yH, QF.length, row ae.cells QF, gh yH, gl yH, (bk h fun Mt aln h => (cQ (xf _ _ _ aln _ _) [0, 1] ⟨cz, ov, ⟨⟩⟩ (fun Hl => .aV []) (fun Hl => [.row g1000 2 1 51 (fun _ => [aM Hl 0 g1000, .own 1 Hl 0 Mt.af.ao.length]), .row Hl 1 Mt.af.ao.length 5 (row cB Mt.af.ao), .row 0 4 1 29 (fun _ => a1.lit)]) fun Hl => ?_))⟩)⟩⟩))⟩)⟩⟩
 obtain rfl := si h
 exact en [0, 1] ⟨Hl, rfl, rfl⟩ (.bu ⟨⟩) ⟨(ob rfl ⟨.aM, .o, ⟨⟩⟩), od, ⟨⟩⟩
 refine ⟨rfl, ⟨rfl, _, rfl, (bk h fun abq VS h => ⟨aA VS, _, (ax VS).trans (ae.au abq), (bk h fun v193 alo h => (cQ (kO _ _ _ _ alo _ _) [0, 1] ⟨cz, ov, ⟨⟩⟩ (fun Nt => .aV []) (fun Nt => [.row g1000 2 1 51 (fun _ => [aM Nt 0 g1000, .own 1 Nt 0 v193.af.ao.length]), .row Nt 1 v193.af.ao.length 5 (row cB v193.af.ao), .row 0 4 1 29 (fun _ => a1.lit)]) fun Nt => ⟨rfl, ⟨rfl, _, rfl, (bk h fun QG Nu h => ⟨trivial, ir Nu, QG.length, row ae.cells QG, gh Nu, gl Nu, (bk h fun v198 alp h => (cQ (xf _ _ _ alp _ _) [0, 1] ⟨cz, ov, ⟨⟩⟩ (fun Hm => .aV []) (fun Hm => [.row g1000 2 1 51 (fun _ => [aM Hm 0 g1000, .own 1 Hm 0 v198.af.ao.length]), .row Hm 1 v198.af.ao.length 5 (row cB v198.af.ao), .row 0 4 1 29 (fun _ => a1.lit)]) fun Hm => ?_))⟩)⟩⟩))⟩)⟩⟩
 obtain rfl := si h
 exact en [0, 1] ⟨Hm, rfl, rfl⟩ (.bu ⟨⟩) ⟨(ob rfl ⟨.aM, .o, ⟨⟩⟩), od, ⟨⟩⟩
 refine .d (sE h (fun Kr h => ?_) (fun Kr h => ?_))
 refine ⟨rfl, _, rfl, (bk h fun Mv alq h => (cQ (abL _ _ _ alq _ _) [0, 1] ⟨cz, ov, ⟨⟩⟩ (fun Hn => .aV []) (fun Hn => [.row g1000 2 1 51 (fun _ => [aM Hn 0 g1000, .own 1 Hn 0 Mv.af.ao.length]), .row Hn 1 Mv.af.ao.length 5 (row cB Mv.af.ao), .row 0 4 1 29 (fun _ => a1.lit)]) fun Hn => ?_))⟩
 obtain rfl := si h
 exact en [0, 1] ⟨Hn, rfl, rfl⟩ (.bu ⟨⟩) ⟨(ob rfl ⟨.aM, .o, ⟨⟩⟩), od, ⟨⟩⟩
 obtain rfl := si h
 exact en [0, 1] ⟨g1001, rfl, rfl⟩ (.bu ⟨⟩) ⟨(ob rfl ⟨.aM, .o, ⟨⟩⟩), od, ⟨⟩⟩
 intro _ pM a0 a1 r h g1000 g1001
 refine gq Tryz.func157 ?_
 refine .d (.d ⟨row cS ([[102, 117, 110, 99, 116, 105, 111, 110, 32]] : List aq), aD cS ([[102, 117, 110, 99, 116, 105, 111, 110, 32]] : List aq) rfl (aB rfl), (bk h fun My alr h => (cp (aw (g1000 := g1000) (g1001 := g1001) (g1002 := 0) alr) [0, 1, 3] ⟨cz, ov, ov, ⟨⟩⟩ ?_))⟩)
 rintro _ _ ⟨QJ, als, rfl, rfl⟩
 refine ⟨.aV [], [.row g1000 2 1 51 (fun _ => [aM QJ 0 g1000, .own 1 QJ 0 My.af.ao.length]), .row QJ 1 My.af.ao.length 5 (row cB My.af.ao), .row 0 4 1 29 (fun _ => a1.lit), .row als 1 ([[102, 117, 110, 99, 116, 105, 111, 110, 32]] : List aq).length 9 (row cS ([[102, 117, 110, 99, 116, 105, 111, 110, 32]] : List aq))], rfl, avi, (.d ⟨rfl, ⟨rfl, _, rfl, (bk h fun nW BI h => (cQ (j3 (g1000 := g1000) (g1001 := QJ) BI) [0, 1] ⟨cz, ov, ⟨⟩⟩ (fun yn => .aV []) (fun yn => [.row g1000 2 1 51 (fun _ => [aM yn 0 g1000, .own 1 yn 0 nW.af.ao.length]), .row yn 1 nW.af.ao.length 5 (row cB nW.af.ao), .row 0 4 1 29 (fun _ => a1.lit), .row als 1 ([[102, 117, 110, 99, 116, 105, 111, 110, 32]] : List aq).length 9 (row cS ([[102, 117, 110, 99, 116, 105, 111, 110, 32]] : List aq))]) fun yn => ?_))⟩⟩)⟩
 obtain ⟨abT, alu, alv⟩ := bd h
 replace h := alu
 refine .cut (fun σ η => ∃ D5, ∃ Nv : Nat, D5 = abT ∧ σ = [(0, .aL 0 g1000 0 0), (3, .aL 2 0 0 0)] ∧ η = [.row g1000 2 1 51 (fun _ => [aM Nv 0 g1000, .own 1 Nv 0 D5.length]), .row Nv 1 D5.length 5 (row cB D5), .row 0 4 1 29 (fun _ => a1.lit)]) ?_ ?_
 refine .d ⟨rfl, ⟨rfl, _, rfl, ?_⟩⟩
 refine le (bL.partial_correctness a1 nW (motive := fun GZ BX => abT = BX → aG _ _ [(0, .aL 0 g1000 0 0), (3, .aL 2 0 0 0), (14, sl 4 ae.cells a1.ah), (15, .int .i64 (a1.ah.length : Int)), (16, .int .i64 GZ)] [.row g1000 2 1 51 (fun _ => [aM yn 0 g1000, .own 1 yn 0 nW.af.ao.length]), .row yn 1 nW.af.ao.length 5 (row cB nW.af.ao), .row 0 4 1 29 (fun _ => a1.lit)]) ?_ 0 abT h rfl) (tk [0, 1, 2] ⟨.p, .p, .l, .i, .i, ⟨⟩⟩ ⟨(ob rfl ⟨.aM, .o, ⟨⟩⟩), od, (bZ rfl), ⟨⟩⟩)
 intro asx alw GZ BX h alx
 subst alx
 refine aG.round (.d (.d (sD h (fun aly h => ?_) (fun aly h => ?_))))
 refine .d (.d (bk h fun Au VT h => ⟨aA VT, _, (ax VT).trans (ae.au Au), ⟨rfl, _, fun _ => [.int .i64 Au.ai, .int .i64 Au.aC, .str Au.aj, sl 4 ae.cells Au.ah], rfl, bI rfl, (.d ⟨rfl, ⟨rfl, _, rfl, (sE h (fun K6 h => ?_) (fun K6 h => ?_))⟩⟩)⟩⟩))
 refine .d ⟨row cS ([[32, 117, 115, 101, 32]] : List aq), aD cS ([[32, 117, 115, 101, 32]] : List aq) rfl (aB rfl), (bk h fun Mj alz h => (cp (aw (g1000 := g1000) (g1001 := yn) (g1002 := 0) alz) [0, 1, 4] ⟨cz, ov, ov, ⟨⟩⟩ ?_))⟩
 rintro _ _ ⟨QK, alA, rfl, rfl⟩
 exact ⟨.aV [], [.row g1000 2 1 51 (fun _ => [aM QK 0 g1000, .own 1 QK 0 Mj.af.ao.length]), .row QK 1 Mj.af.ao.length 5 (row cB Mj.af.ao), .row 0 4 1 29 (fun _ => a1.lit), .row 0 4 1 29 (fun _ => Au.lit), .row alA 1 ([[32, 117, 115, 101, 32]] : List aq).length 9 (row cS ([[32, 117, 115, 101, 32]] : List aq))], rfl, avi, (.d ⟨rfl, ⟨rfl, _, rfl, (bk h fun Mk alB h => (cQ (j3 (g1000 := g1000) (g1001 := QK) alB) [0, 1] ⟨cz, ov, ⟨⟩⟩ (fun Ho => .aV []) (fun Ho => [.row g1000 2 1 51 (fun _ => [aM Ho 0 g1000, .own 1 Ho 0 Mk.af.ao.length]), .row Ho 1 Mk.af.ao.length 5 (row cB Mk.af.ao), .row 0 4 1 29 (fun _ => a1.lit), .row 0 4 1 29 (fun _ => Au.lit), .row alA 1 ([[32, 117, 115, 101, 32]] : List aq).length 9 (row cS ([[32, 117, 115, 101, 32]] : List aq))]) fun Ho => (ct ⟨_, Ho, si h, rfl, rfl⟩ (tk [0, 1, 2] ⟨.p, .p, ⟨⟩⟩ ⟨(ob rfl ⟨.aM, .o, ⟨⟩⟩), od, (bZ rfl), ⟨⟩⟩))))⟩⟩)⟩
 exact lg (alw _ _ h rfl) (tk [0, 1, 2] ⟨.p, .p, .l, .i, .i, ⟨⟩⟩ ⟨(ob rfl ⟨.aM, .o, ⟨⟩⟩), od, (bZ rfl), ⟨⟩⟩)
 exact ct ⟨_, yn, si h, rfl, rfl⟩ (tk [0, 1, 2] ⟨.p, .p, ⟨⟩⟩ ⟨(ob rfl ⟨.aM, .o, ⟨⟩⟩), od, (bZ rfl), ⟨⟩⟩)
 rintro _ _ ⟨D5, Nv, rfl, rfl, rfl⟩
 replace h := alv
 refine .d ⟨row cS ([[32]] : List aq), aD cS ([[32]] : List aq) rfl (aB rfl), (bk h fun Mz alC h => (cp (aw (g1000 := g1000) (g1001 := Nv) (g1002 := 0) alC) [0, 1, 3] ⟨cz, ov, ov, ⟨⟩⟩ ?_))⟩
 rintro _ _ ⟨abU, alD, rfl, rfl⟩
 refine ⟨.aV [], [.row g1000 2 1 51 (fun _ => [aM abU 0 g1000, .own 1 abU 0 Mz.af.ao.length]), .row abU 1 Mz.af.ao.length 5 (row cB Mz.af.ao), .row 0 4 1 29 (fun _ => a1.lit), .row alD 1 ([[32]] : List aq).length 9 (row cS ([[32]] : List aq))], rfl, avi, ⟨rfl, ⟨rfl, _, rfl, ⟨rfl, ⟨rfl, _, rfl, (bk h fun abu VU h => ⟨aA VU, _, (ax VU).trans (ae.au abu), (bk h fun MA alE h => (cQ (pM _ _ _ alE _ _) [0, 1] ⟨cz, ov, ⟨⟩⟩ (fun Hp => .aV []) (fun Hp => [.row g1000 2 1 51 (fun _ => [aM Hp 0 g1000, .own 1 Hp 0 MA.af.ao.length]), .row Hp 1 MA.af.ao.length 5 (row cB MA.af.ao), .row 0 4 1 29 (fun _ => a1.lit), .row alD 1 ([[32]] : List aq).length 9 (row cS ([[32]] : List aq))]) fun Hp => ?_))⟩)⟩⟩⟩⟩⟩
 obtain rfl := si h
 exact en [0, 1] ⟨Hp, rfl, rfl⟩ (.bu ⟨⟩) ⟨(ob rfl ⟨.aM, .o, ⟨⟩⟩), od, ⟨⟩⟩
 intro _ alF a0 a1 r h g1000 g1001
 refine gq Tryz.func42 ?_
 refine .d (.d ⟨row cS ([[123, 32]] : List aq), aD cS ([[123, 32]] : List aq) rfl (aB rfl), (bk h fun G3 alG h => (cp (aw (g1000 := g1000) (g1001 := g1001) (g1002 := 0) alG) [0, 1, 3] ⟨cz, ov, ov, ⟨⟩⟩ ?_))⟩)
 rintro _ _ ⟨QL, arb, rfl, rfl⟩
 refine ⟨.aV [], [.row g1000 2 1 51 (fun _ => [aM QL 0 g1000, .own 1 QL 0 G3.af.ao.length]), .row QL 1 G3.af.ao.length 5 (row cB G3.af.ao), .row 0 4 1 29 (fun _ => a1.lit), .row arb 1 ([[123, 32]] : List aq).length 9 (row cS ([[123, 32]] : List aq))], rfl, avi, ?_⟩
 obtain ⟨abV, alH, alI⟩ := bd h
 replace h := alH
 refine .cut (fun σ η => ∃ D6, ∃ Nw : Nat, D6 = abV ∧ σ = [(0, .aL 0 g1000 0 0)] ∧ η = [.row g1000 2 1 51 (fun _ => [aM Nw 0 g1000, .own 1 Nw 0 D6.length]), .row Nw 1 D6.length 5 (row cB D6)]) ?_ ?_
 refine .d ⟨rfl, ⟨rfl, _, rfl, ?_⟩⟩
 have alJ := alF _ _ _ _ h
 refine le (nH (motive := fun alK jr jd alL => ∀ Nx : Nat, a1 = alK → abV = alL → aG _ _ [(0, .aL 0 g1000 0 0), (10, sl 4 ae.cells a1.ah), (11, .int .i64 (a1.ah.length : Int)), (12, .int .i64 jd)] [.row g1000 2 1 51 (fun _ => [aM Nx 0 g1000, .own 1 Nx 0 jr.length]), .row Nx 1 jr.length 5 (row cB jr)]) ?_ a1 G3.af.ao 0 abV alJ QL rfl rfl) (tk [0, 1] ⟨.p, .l, .i, .i, ⟨⟩⟩ ⟨(ob rfl ⟨.aM, .o, ⟨⟩⟩), od, ⟨⟩⟩)
 intro _ alM _ _ alK jr jd alL h alN Nx QM alO
 subst QM
 subst alO
 refine aG.round (.d (.d (sD h (fun Kv h => ?_) (fun Kv h => ?_))))
 refine .d (.d (bk h fun uc BL h => ⟨aA BL, _, (ax BL).trans (ae.au uc), ⟨rfl, _, fun _ => [.int .i64 uc.ai, .int .i64 uc.aC, .str uc.aj, sl 4 ae.cells uc.ah], rfl, bI rfl, (.d ⟨rfl, _, rfl, (bk h fun AD alP h => (cQ (alM _ _ _ alP _ _) [0, 1] ⟨cz, ov, ⟨⟩⟩ (fun Hq => .aV []) (fun Hq => [.row g1000 2 1 51 (fun _ => [aM Hq 0 g1000, .own 1 Hq 0 AD.af.ao.length]), .row Hq 1 AD.af.ao.length 5 (row cB AD.af.ao), .row 0 4 1 29 (fun _ => uc.lit)]) fun Hq => ⟨row cS ([[32]] : List aq), aD cS ([[32]] : List aq) rfl (aB rfl), (bk h fun AE alQ h => (cp (aw (g1000 := g1000) (g1001 := Hq) (g1002 := 0) alQ) [0, 1, 3] ⟨cz, ov, ov, ⟨⟩⟩ ?_))⟩))⟩)⟩⟩))
 rintro _ _ ⟨QN, arc, rfl, rfl⟩
 exact ⟨.aV [], [.row g1000 2 1 51 (fun _ => [aM QN 0 g1000, .own 1 QN 0 AE.af.ao.length]), .row QN 1 AE.af.ao.length 5 (row cB AE.af.ao), .row 0 4 1 29 (fun _ => uc.lit), .row arc 1 ([[32]] : List aq).length 9 (row cS ([[32]] : List aq))], rfl, avi, (lg (alN _ _ _ _ h QN rfl rfl) (tk [0, 1] ⟨.p, .l, .i, .i, ⟨⟩⟩ ⟨(ob rfl ⟨.aM, .o, ⟨⟩⟩), od, ⟨⟩⟩))⟩
 exact ct ⟨_, Nx, si h, rfl, rfl⟩ (tk [0, 1] ⟨.p, ⟨⟩⟩ ⟨(ob rfl ⟨.aM, .o, ⟨⟩⟩), od, ⟨⟩⟩)
 rintro _ _ ⟨D6, Nw, rfl, rfl, rfl⟩
 replace h := alI
 refine ⟨row cS ([[125]] : List aq), aD cS ([[125]] : List aq) rfl (aB rfl), (bk h fun MB alR h => (cp (aw (g1000 := g1000) (g1001 := Nw) (g1002 := 0) alR) [0, 1, 2] ⟨cz, ov, ov, ⟨⟩⟩ ?_))⟩
 rintro _ _ ⟨QO, ard, rfl, rfl⟩
 refine ⟨.aV [], [.row g1000 2 1 51 (fun _ => [aM QO 0 g1000, .own 1 QO 0 MB.af.ao.length]), .row QO 1 MB.af.ao.length 5 (row cB MB.af.ao), .row ard 1 ([[125]] : List aq).length 9 (row cS ([[125]] : List aq))], rfl, avi, ?_⟩
 obtain rfl := si h
 exact en [0, 1] ⟨QO, rfl, rfl⟩ (.bu ⟨⟩) ⟨(ob rfl ⟨.aM, .o, ⟨⟩⟩), od, ⟨⟩⟩
 intro F0 F1 lQ lR a1 jr jd o h
 exact .mk F1 lR F0 lQ a1 jr jd o h
 intro _ _ _ _ _ _ kO pM VV alS zc alT a0 a1 r h g1000 g1001
 refine gq Tryz.func49 ?_
 refine .d (.d ⟨rfl, ⟨rfl, _, rfl, (.d (sE h (fun K8 h => ?_) (fun K8 h => ?_)))⟩⟩)
 refine ⟨rfl, ⟨rfl, _, rfl, ⟨row cS ([[63, 62, 10], a1.aj, [60, 63, 32]] : List aq), aD cS ([[63, 62, 10], a1.aj, [60, 63, 32]] : List aq) rfl (aB rfl), (bk h fun ME alU h => (cp (aw (g1000 := g1000) (g1001 := g1001) (g1002 := 0) alU) [0, 1, 3] ⟨cz, ov, ov, ⟨⟩⟩ ?_))⟩⟩⟩
 rintro _ _ ⟨QP, arf, rfl, rfl⟩
 refine ⟨.aV [], [.row g1000 2 1 51 (fun _ => [aM QP 0 g1000, .own 1 QP 0 ME.af.ao.length]), .row QP 1 ME.af.ao.length 5 (row cB ME.af.ao), .row 0 4 1 29 (fun _ => a1.lit), .row arf 1 ([[63, 62, 10], a1.aj, [60, 63, 32]] : List aq).length 9 (row cS ([[63, 62, 10], a1.aj, [60, 63, 32]] : List aq))], rfl, avi, ?_⟩
 obtain rfl := si h
 exact en [0, 1] ⟨QP, rfl, rfl⟩ (.bu ⟨⟩) ⟨(ob rfl ⟨.aM, .o, ⟨⟩⟩), od, ⟨⟩⟩
 refine .d (sE h (fun K9 h => ?_) (fun K9 h => ?_))
 refine ⟨rfl, ⟨rfl, _, rfl, (bk h fun z6 uF h => ⟨aA uF, _, (ax uF).trans (ae.au z6), (bk h fun x5 La h => (cQ (zc _ _ _ _ La _ _) [0, 1] ⟨cz, ov, ⟨⟩⟩ (fun Hr => .aV []) (fun Hr => [.row g1000 2 1 51 (fun _ => [aM Hr 0 g1000, .own 1 Hr 0 x5.af.ao.length]), .row Hr 1 x5.af.ao.length 5 (row cB x5.af.ao), .row 0 4 1 29 (fun _ => a1.lit)]) fun Hr => ?_))⟩)⟩⟩
 obtain rfl := si h
 exact en [0, 1] ⟨Hr, rfl, rfl⟩ (.bu ⟨⟩) ⟨(ob rfl ⟨.aM, .o, ⟨⟩⟩), od, ⟨⟩⟩
 refine .d (sE h (fun alV h => ?_) (fun alV h => ?_))
 refine ⟨rfl, ⟨rfl, _, rfl, (bk h fun abv BN h => ⟨aA BN, _, (ax BN).trans (ae.au abv), (bk h fun MF alW h => (cQ (zc _ _ _ _ alW _ _) [0, 1] ⟨cz, ov, ⟨⟩⟩ (fun Hs => .aV []) (fun Hs => [.row g1000 2 1 51 (fun _ => [aM Hs 0 g1000, .own 1 Hs 0 MF.af.ao.length]), .row Hs 1 MF.af.ao.length 5 (row cB MF.af.ao), .row 0 4 1 29 (fun _ => a1.lit)]) fun Hs => ?_))⟩)⟩⟩
 obtain rfl := si h
 exact en [0, 1] ⟨Hs, rfl, rfl⟩ (.bu ⟨⟩) ⟨(ob rfl ⟨.aM, .o, ⟨⟩⟩), od, ⟨⟩⟩
 refine .d (sE h (fun alX h => ?_) (fun alX h => ?_))
 refine .d ⟨row cS ([[105, 102, 32, 40]] : List aq), aD cS ([[105, 102, 32, 40]] : List aq) rfl (aB rfl), (bk h fun MG alY h => (cp (aw (g1000 := g1000) (g1001 := g1001) (g1002 := 0) alY) [0, 1, 3] ⟨cz, ov, ov, ⟨⟩⟩ ?_))⟩
 rintro _ _ ⟨abW, Ht, rfl, rfl⟩
 refine ⟨.aV [], [.row g1000 2 1 51 (fun _ => [aM abW 0 g1000, .own 1 abW 0 MG.af.ao.length]), .row abW 1 MG.af.ao.length 5 (row cB MG.af.ao), .row 0 4 1 29 (fun _ => a1.lit), .row Ht 1 ([[105, 102, 32, 40]] : List aq).length 9 (row cS ([[105, 102, 32, 40]] : List aq))], rfl, avi, (.d ⟨rfl, ⟨rfl, _, rfl, (bk h fun abw VW h => ⟨aA VW, _, (ax VW).trans (ae.au abw), (bk h fun MH alZ h => (cQ (kO _ _ _ _ alZ _ _) [0, 1] ⟨cz, ov, ⟨⟩⟩ (fun Hu => .aV []) (fun Hu => [.row g1000 2 1 51 (fun _ => [aM Hu 0 g1000, .own 1 Hu 0 MH.af.ao.length]), .row Hu 1 MH.af.ao.length 5 (row cB MH.af.ao), .row 0 4 1 29 (fun _ => a1.lit), .row Ht 1 ([[105, 102, 32, 40]] : List aq).length 9 (row cS ([[105, 102, 32, 40]] : List aq))]) fun Hu => (.d ⟨row cS ([[41, 32]] : List aq), aD cS ([[41, 32]] : List aq) rfl (aB rfl), (bk h fun MI al0 h => (cp (aw (g1000 := g1000) (g1001 := Hu) (g1002 := 0) al0) [0, 1, 4] ⟨cz, ov, ov, ⟨⟩⟩ ?_))⟩)))⟩)⟩⟩)⟩
 rintro _ _ ⟨abX, QQ, rfl, rfl⟩
 refine ⟨.aV [], [.row g1000 2 1 51 (fun _ => [aM abX 0 g1000, .own 1 abX 0 MI.af.ao.length]), .row abX 1 MI.af.ao.length 5 (row cB MI.af.ao), .row 0 4 1 29 (fun _ => a1.lit), .row Ht 1 ([[105, 102, 32, 40]] : List aq).length 9 (row cS ([[105, 102, 32, 40]] : List aq)), .row QQ 1 ([[41, 32]] : List aq).length 9 (row cS ([[41, 32]] : List aq))], rfl, avi, (.d ⟨rfl, ⟨rfl, _, rfl, (bk h fun abx VX h => ⟨aA VX, _, (ax VX).trans (ae.au abx), (bk h fun G4 al1 h => (cQ (pM _ _ _ al1 _ _) [0, 1] ⟨cz, ov, ⟨⟩⟩ (fun Ej => .aV []) (fun Ej => [.row g1000 2 1 51 (fun _ => [aM Ej 0 g1000, .own 1 Ej 0 G4.af.ao.length]), .row Ej 1 G4.af.ao.length 5 (row cB G4.af.ao), .row 0 4 1 29 (fun _ => a1.lit), .row Ht 1 ([[105, 102, 32, 40]] : List aq).length 9 (row cS ([[105, 102, 32, 40]] : List aq)), .row QQ 1 ([[41, 32]] : List aq).length 9 (row cS ([[41, 32]] : List aq))]) fun Ej => (.d ⟨rfl, ⟨rfl, _, rfl, (sE h (fun al2 h => ?_) (fun al2 h => ?_))⟩⟩)))⟩)⟩⟩)⟩
 refine .d ⟨row cS ([[32, 101, 108, 115, 101, 32]] : List aq), aD cS ([[32, 101, 108, 115, 101, 32]] : List aq) rfl (aB rfl), (bk h fun MJ al3 h => (cp (aw (g1000 := g1000) (g1001 := Ej) (g1002 := 0) al3) [0, 1, 5] ⟨cz, ov, ov, ⟨⟩⟩ ?_))⟩
 rintro _ _ ⟨abY, al4, rfl, rfl⟩
 refine ⟨.aV [], [.row g1000 2 1 51 (fun _ => [aM abY 0 g1000, .own 1 abY 0 MJ.af.ao.length]), .row abY 1 MJ.af.ao.length 5 (row cB MJ.af.ao), .row 0 4 1 29 (fun _ => a1.lit), .row Ht 1 ([[105, 102, 32, 40]] : List aq).length 9 (row cS ([[105, 102, 32, 40]] : List aq)), .row QQ 1 ([[41, 32]] : List aq).length 9 (row cS ([[41, 32]] : List aq)), .row al4 1 ([[32, 101, 108, 115, 101, 32]] : List aq).length 9 (row cS ([[32, 101, 108, 115, 101, 32]] : List aq))], rfl, avi, ⟨rfl, ⟨rfl, _, rfl, (bk h fun aby VY h => ⟨aA VY, _, (ax VY).trans (ae.au aby), (bk h fun MK al5 h => (cQ (pM _ _ _ al5 _ _) [0, 1] ⟨cz, ov, ⟨⟩⟩ (fun Hv => .aV []) (fun Hv => [.row g1000 2 1 51 (fun _ => [aM Hv 0 g1000, .own 1 Hv 0 MK.af.ao.length]), .row Hv 1 MK.af.ao.length 5 (row cB MK.af.ao), .row 0 4 1 29 (fun _ => a1.lit), .row Ht 1 ([[105, 102, 32, 40]] : List aq).length 9 (row cS ([[105, 102, 32, 40]] : List aq)), .row QQ 1 ([[41, 32]] : List aq).length 9 (row cS ([[41, 32]] : List aq)), .row al4 1 ([[32, 101, 108, 115, 101, 32]] : List aq).length 9 (row cS ([[32, 101, 108, 115, 101, 32]] : List aq))]) fun Hv => ?_))⟩)⟩⟩⟩
 obtain rfl := si h
 exact en [0, 1] ⟨Hv, rfl, rfl⟩ (.bu ⟨⟩) ⟨(ob rfl ⟨.aM, .o, ⟨⟩⟩), od, ⟨⟩⟩
 obtain rfl := si h
 exact en [0, 1] ⟨Ej, rfl, rfl⟩ (.bu ⟨⟩) ⟨(ob rfl ⟨.aM, .o, ⟨⟩⟩), od, ⟨⟩⟩
 refine .d (sE h (fun al6 h => ?_) (fun al6 h => ?_))
 refine .d ⟨row cS ([[119, 104, 105, 108, 101, 32, 40]] : List aq), aD cS ([[119, 104, 105, 108, 101, 32, 40]] : List aq) rfl (aB rfl), (bk h fun ML al7 h => (cp (aw (g1000 := g1000) (g1001 := g1001) (g1002 := 0) al7) [0, 1, 3] ⟨cz, ov, ov, ⟨⟩⟩ ?_))⟩
 rintro _ _ ⟨abZ, QR, rfl, rfl⟩
 refine ⟨.aV [], [.row g1000 2 1 51 (fun _ => [aM abZ 0 g1000, .own 1 abZ 0 ML.af.ao.length]), .row abZ 1 ML.af.ao.length 5 (row cB ML.af.ao), .row 0 4 1 29 (fun _ => a1.lit), .row QR 1 ([[119, 104, 105, 108, 101, 32, 40]] : List aq).length 9 (row cS ([[119, 104, 105, 108, 101, 32, 40]] : List aq))], rfl, avi, (.d ⟨rfl, ⟨rfl, _, rfl, (bk h fun wq BP h => ⟨aA BP, _, (ax BP).trans (ae.au wq), (bk h fun u9 Kz h => (cQ (kO _ _ _ _ Kz _ _) [0, 1] ⟨cz, ov, ⟨⟩⟩ (fun Hw => .aV []) (fun Hw => [.row g1000 2 1 51 (fun _ => [aM Hw 0 g1000, .own 1 Hw 0 u9.af.ao.length]), .row Hw 1 u9.af.ao.length 5 (row cB u9.af.ao), .row 0 4 1 29 (fun _ => a1.lit), .row QR 1 ([[119, 104, 105, 108, 101, 32, 40]] : List aq).length 9 (row cS ([[119, 104, 105, 108, 101, 32, 40]] : List aq))]) fun Hw => (.d ⟨row cS ([[41, 32]] : List aq), aD cS ([[41, 32]] : List aq) rfl (aB rfl), (bk h fun MM al8 h => (cp (aw (g1000 := g1000) (g1001 := Hw) (g1002 := 0) al8) [0, 1, 4] ⟨cz, ov, ov, ⟨⟩⟩ ?_))⟩)))⟩)⟩⟩)⟩
 rintro _ _ ⟨ab0, al9, rfl, rfl⟩
 refine ⟨.aV [], [.row g1000 2 1 51 (fun _ => [aM ab0 0 g1000, .own 1 ab0 0 MM.af.ao.length]), .row ab0 1 MM.af.ao.length 5 (row cB MM.af.ao), .row 0 4 1 29 (fun _ => a1.lit), .row QR 1 ([[119, 104, 105, 108, 101, 32, 40]] : List aq).length 9 (row cS ([[119, 104, 105, 108, 101, 32, 40]] : List aq)), .row al9 1 ([[41, 32]] : List aq).length 9 (row cS ([[41, 32]] : List aq))], rfl, avi, ⟨rfl, ⟨rfl, _, rfl, (bk h fun abz VZ h => ⟨aA VZ, _, (ax VZ).trans (ae.au abz), (bk h fun MN ama h => (cQ (pM _ _ _ ama _ _) [0, 1] ⟨cz, ov, ⟨⟩⟩ (fun Hx => .aV []) (fun Hx => [.row g1000 2 1 51 (fun _ => [aM Hx 0 g1000, .own 1 Hx 0 MN.af.ao.length]), .row Hx 1 MN.af.ao.length 5 (row cB MN.af.ao), .row 0 4 1 29 (fun _ => a1.lit), .row QR 1 ([[119, 104, 105, 108, 101, 32, 40]] : List aq).length 9 (row cS ([[119, 104, 105, 108, 101, 32, 40]] : List aq)), .row al9 1 ([[41, 32]] : List aq).length 9 (row cS ([[41, 32]] : List aq))]) fun Hx => ?_))⟩)⟩⟩⟩
 obtain rfl := si h
 exact en [0, 1] ⟨Hx, rfl, rfl⟩ (.bu ⟨⟩) ⟨(ob rfl ⟨.aM, .o, ⟨⟩⟩), od, ⟨⟩⟩
 refine .d (sE h (fun amc h => ?_) (fun amc h => ?_))
 refine .d ⟨row cS ([[102, 111, 114, 101, 97, 99, 104, 32, 40]] : List aq), aD cS ([[102, 111, 114, 101, 97, 99, 104, 32, 40]] : List aq) rfl (aB rfl), (bk h fun MO amd h => (cp (aw (g1000 := g1000) (g1001 := g1001) (g1002 := 0) amd) [0, 1, 3] ⟨cz, ov, ov, ⟨⟩⟩ ?_))⟩
 rintro _ _ ⟨ab1, QS, rfl, rfl⟩
 refine ⟨.aV [], [.row g1000 2 1 51 (fun _ => [aM ab1 0 g1000, .own 1 ab1 0 MO.af.ao.length]), .row ab1 1 MO.af.ao.length 5 (row cB MO.af.ao), .row 0 4 1 29 (fun _ => a1.lit), .row QS 1 ([[102, 111, 114, 101, 97, 99, 104, 32, 40]] : List aq).length 9 (row cS ([[102, 111, 114, 101, 97, 99, 104, 32, 40]] : List aq))], rfl, avi, (.d ⟨rfl, ⟨rfl, _, rfl, (bk h fun abA V0 h => ⟨aA V0, _, (ax V0).trans (ae.au abA), (bk h fun MP ame h => (cQ (kO _ _ _ _ ame _ _) [0, 1] ⟨cz, ov, ⟨⟩⟩ (fun Hy => .aV []) (fun Hy => [.row g1000 2 1 51 (fun _ => [aM Hy 0 g1000, .own 1 Hy 0 MP.af.ao.length]), .row Hy 1 MP.af.ao.length 5 (row cB MP.af.ao), .row 0 4 1 29 (fun _ => a1.lit), .row QS 1 ([[102, 111, 114, 101, 97, 99, 104, 32, 40]] : List aq).length 9 (row cS ([[102, 111, 114, 101, 97, 99, 104, 32, 40]] : List aq))]) fun Hy => (.d ⟨rfl, ⟨rfl, _, rfl, (bk h fun Av V1 h => ⟨aA V1, _, (ax V1).trans (ae.au Av), ⟨row cS ([[32, 97, 115, 32, 36], Av.aj] : List aq), aD cS ([[32, 97, 115, 32, 36], Av.aj] : List aq) rfl (aB rfl), (bk h fun G5 amf h => ?_)⟩⟩)⟩⟩)))⟩)⟩⟩)⟩
 refine cp (aw (g1000 := g1000) (g1001 := Hy) (g1002 := 0) amf) [0, 1, 4] ⟨cz, ov, ov, ⟨⟩⟩ ?_
 rintro _ _ ⟨Ny, amg, rfl, rfl⟩
 refine ⟨.aV [], [.row g1000 2 1 51 (fun _ => [aM Ny 0 g1000, .own 1 Ny 0 G5.af.ao.length]), .row Ny 1 G5.af.ao.length 5 (row cB G5.af.ao), .row 0 4 1 29 (fun _ => a1.lit), .row QS 1 ([[102, 111, 114, 101, 97, 99, 104, 32, 40]] : List aq).length 9 (row cS ([[102, 111, 114, 101, 97, 99, 104, 32, 40]] : List aq)), .row amg 1 ([[32, 97, 115, 32, 36], Av.aj] : List aq).length 9 (row cS ([[32, 97, 115, 32, 36], Av.aj] : List aq))], rfl, avi, ?_⟩
 obtain ⟨arh, amh, ami⟩ := bd h
 replace h := amh
 refine .cut (fun σ η => ∃ D8, ∃ NA : Nat, D8 = arh ∧ σ = [(0, .aL 0 g1000 0 0), (3, .aL 2 0 0 0)] ∧ η = [.row g1000 2 1 51 (fun _ => [aM NA 0 g1000, .own 1 NA 0 D8.length]), .row NA 1 D8.length 5 (row cB D8), .row 0 4 1 29 (fun _ => a1.lit)]) ?_ ?_
 refine .d ⟨rfl, ⟨rfl, _, rfl, (sE h (fun amj h => ?_) (fun amj h => ?_))⟩⟩
 refine ⟨rfl, ⟨rfl, _, rfl, (bk h fun D7 V2 h => ⟨aA V2, _, (ax V2).trans (ae.au D7), ⟨row cS ([[32, 61, 62, 32, 36], D7.aj] : List aq), aD cS ([[32, 61, 62, 32, 36], D7.aj] : List aq) rfl (aB rfl), (bk h fun MQ amk h => (cp (aw (g1000 := g1000) (g1001 := Ny) (g1002 := 0) amk) [0, 1, 5] ⟨cz, ov, ov, ⟨⟩⟩ ?_))⟩⟩)⟩⟩
 rintro _ _ ⟨QT, ari, rfl, rfl⟩
 exact ⟨.aV [], [.row g1000 2 1 51 (fun _ => [aM QT 0 g1000, .own 1 QT 0 MQ.af.ao.length]), .row QT 1 MQ.af.ao.length 5 (row cB MQ.af.ao), .row 0 4 1 29 (fun _ => a1.lit), .row QS 1 ([[102, 111, 114, 101, 97, 99, 104, 32, 40]] : List aq).length 9 (row cS ([[102, 111, 114, 101, 97, 99, 104, 32, 40]] : List aq)), .row amg 1 ([[32, 97, 115, 32, 36], Av.aj] : List aq).length 9 (row cS ([[32, 97, 115, 32, 36], Av.aj] : List aq)), .row ari 1 ([[32, 61, 62, 32, 36], D7.aj] : List aq).length 9 (row cS ([[32, 61, 62, 32, 36], D7.aj] : List aq))], rfl, avi, (ct ⟨_, QT, si h, rfl, rfl⟩ (tk [0, 1, 2] ⟨.p, .p, ⟨⟩⟩ ⟨(ob rfl ⟨.aM, .o, ⟨⟩⟩), od, (bZ rfl), ⟨⟩⟩))⟩
 exact ct ⟨_, Ny, si h, rfl, rfl⟩ (tk [0, 1, 2] ⟨.p, .p, ⟨⟩⟩ ⟨(ob rfl ⟨.aM, .o, ⟨⟩⟩), od, (bZ rfl), ⟨⟩⟩)
 rintro _ _ ⟨D8, NA, rfl, rfl, rfl⟩
 replace h := ami
 refine .d ⟨row cS ([[41, 32]] : List aq), aD cS ([[41, 32]] : List aq) rfl (aB rfl), (bk h fun MR aml h => (cp (aw (g1000 := g1000) (g1001 := NA) (g1002 := 0) aml) [0, 1, 3] ⟨cz, ov, ov, ⟨⟩⟩ ?_))⟩
 rintro _ _ ⟨ab2, amm, rfl, rfl⟩
 refine ⟨.aV [], [.row g1000 2 1 51 (fun _ => [aM ab2 0 g1000, .own 1 ab2 0 MR.af.ao.length]), .row ab2 1 MR.af.ao.length 5 (row cB MR.af.ao), .row 0 4 1 29 (fun _ => a1.lit), .row amm 1 ([[41, 32]] : List aq).length 9 (row cS ([[41, 32]] : List aq))], rfl, avi, ⟨rfl, ⟨rfl, _, rfl, ⟨rfl, ⟨rfl, _, rfl, (bk h fun abB V3 h => ⟨aA V3, _, (ax V3).trans (ae.au abB), (bk h fun MS amn h => (cQ (pM _ _ _ amn _ _) [0, 1] ⟨cz, ov, ⟨⟩⟩ (fun Hz => .aV []) (fun Hz => [.row g1000 2 1 51 (fun _ => [aM Hz 0 g1000, .own 1 Hz 0 MS.af.ao.length]), .row Hz 1 MS.af.ao.length 5 (row cB MS.af.ao), .row 0 4 1 29 (fun _ => a1.lit), .row amm 1 ([[41, 32]] : List aq).length 9 (row cS ([[41, 32]] : List aq))]) fun Hz => ?_))⟩)⟩⟩⟩⟩⟩
 obtain rfl := si h
 exact en [0, 1] ⟨Hz, rfl, rfl⟩ (.bu ⟨⟩) ⟨(ob rfl ⟨.aM, .o, ⟨⟩⟩), od, ⟨⟩⟩
 refine .d (sE h (fun amo h => ?_) (fun amo h => ?_))
 refine ⟨row cS ([[98, 114, 101, 97, 107, 59]] : List aq), aD cS ([[98, 114, 101, 97, 107, 59]] : List aq) rfl (aB rfl), (bk h fun MT amp h => (cp (aw (g1000 := g1000) (g1001 := g1001) (g1002 := 0) amp) [0, 1, 3] ⟨cz, ov, ov, ⟨⟩⟩ ?_))⟩
 rintro _ _ ⟨QU, arj, rfl, rfl⟩
 refine ⟨.aV [], [.row g1000 2 1 51 (fun _ => [aM QU 0 g1000, .own 1 QU 0 MT.af.ao.length]), .row QU 1 MT.af.ao.length 5 (row cB MT.af.ao), .row 0 4 1 29 (fun _ => a1.lit), .row arj 1 ([[98, 114, 101, 97, 107, 59]] : List aq).length 9 (row cS ([[98, 114, 101, 97, 107, 59]] : List aq))], rfl, avi, ?_⟩
 obtain rfl := si h
 exact en [0, 1] ⟨QU, rfl, rfl⟩ (.bu ⟨⟩) ⟨(ob rfl ⟨.aM, .o, ⟨⟩⟩), od, ⟨⟩⟩
 refine .d (sE h (fun amq h => ?_) (fun amq h => ?_))
 refine ⟨row cS ([[99, 111, 110, 116, 105, 110, 117, 101, 59]] : List aq), aD cS ([[99, 111, 110, 116, 105, 110, 117, 101, 59]] : List aq) rfl (aB rfl), (bk h fun MU amr h => (cp (aw (g1000 := g1000) (g1001 := g1001) (g1002 := 0) amr) [0, 1, 3] ⟨cz, ov, ov, ⟨⟩⟩ ?_))⟩
 rintro _ _ ⟨QV, ark, rfl, rfl⟩
 refine ⟨.aV [], [.row g1000 2 1 51 (fun _ => [aM QV 0 g1000, .own 1 QV 0 MU.af.ao.length]), .row QV 1 MU.af.ao.length 5 (row cB MU.af.ao), .row 0 4 1 29 (fun _ => a1.lit), .row ark 1 ([[99, 111, 110, 116, 105, 110, 117, 101, 59]] : List aq).length 9 (row cS ([[99, 111, 110, 116, 105, 110, 117, 101, 59]] : List aq))], rfl, avi, ?_⟩
 obtain rfl := si h
 exact en [0, 1] ⟨QV, rfl, rfl⟩ (.bu ⟨⟩) ⟨(ob rfl ⟨.aM, .o, ⟨⟩⟩), od, ⟨⟩⟩
 refine .d (sE h (fun ams h => ?_) (fun ams h => ?_))
 refine .d ⟨rfl, ⟨rfl, _, rfl, (sE h (fun amt h => ?_) (fun amt h => ?_))⟩⟩
 refine ⟨row cS ([[114, 101, 116, 117, 114, 110, 59]] : List aq), aD cS ([[114, 101, 116, 117, 114, 110, 59]] : List aq) rfl (aB rfl), (bk h fun MV amu h => (cp (aw (g1000 := g1000) (g1001 := g1001) (g1002 := 0) amu) [0, 1, 3] ⟨cz, ov, ov, ⟨⟩⟩ ?_))⟩
 rintro _ _ ⟨QW, arl, rfl, rfl⟩
 refine ⟨.aV [], [.row g1000 2 1 51 (fun _ => [aM QW 0 g1000, .own 1 QW 0 MV.af.ao.length]), .row QW 1 MV.af.ao.length 5 (row cB MV.af.ao), .row 0 4 1 29 (fun _ => a1.lit), .row arl 1 ([[114, 101, 116, 117, 114, 110, 59]] : List aq).length 9 (row cS ([[114, 101, 116, 117, 114, 110, 59]] : List aq))], rfl, avi, ?_⟩
 obtain rfl := si h
 exact en [0, 1] ⟨QW, rfl, rfl⟩ (.bu ⟨⟩) ⟨(ob rfl ⟨.aM, .o, ⟨⟩⟩), od, ⟨⟩⟩
 refine ⟨rfl, ⟨rfl, _, rfl, (bk h fun abC V4 h => ⟨aA V4, _, (ax V4).trans (ae.au abC), (bk h fun MW amv h => (cQ (zc _ _ _ _ amv _ _) [0, 1] ⟨cz, ov, ⟨⟩⟩ (fun HA => .aV []) (fun HA => [.row g1000 2 1 51 (fun _ => [aM HA 0 g1000, .own 1 HA 0 MW.af.ao.length]), .row HA 1 MW.af.ao.length 5 (row cB MW.af.ao), .row 0 4 1 29 (fun _ => a1.lit)]) fun HA => ?_))⟩)⟩⟩
 obtain rfl := si h
 exact en [0, 1] ⟨HA, rfl, rfl⟩ (.bu ⟨⟩) ⟨(ob rfl ⟨.aM, .o, ⟨⟩⟩), od, ⟨⟩⟩
 refine .d (sE h (fun amw h => ?_) (fun amw h => ?_))
 refine ⟨rfl, ⟨rfl, _, rfl, ⟨row cS ([[103, 108, 111, 98, 97, 108, 32, 36], a1.aj, [59]] : List aq), aD cS ([[103, 108, 111, 98, 97, 108, 32, 36], a1.aj, [59]] : List aq) rfl (aB rfl), (bk h fun MX amx h => (cp (aw (g1000 := g1000) (g1001 := g1001) (g1002 := 0) amx) [0, 1, 3] ⟨cz, ov, ov, ⟨⟩⟩ ?_))⟩⟩⟩
 rintro _ _ ⟨QX, arn, rfl, rfl⟩
 refine ⟨.aV [], [.row g1000 2 1 51 (fun _ => [aM QX 0 g1000, .own 1 QX 0 MX.af.ao.length]), .row QX 1 MX.af.ao.length 5 (row cB MX.af.ao), .row 0 4 1 29 (fun _ => a1.lit), .row arn 1 ([[103, 108, 111, 98, 97, 108, 32, 36], a1.aj, [59]] : List aq).length 9 (row cS ([[103, 108, 111, 98, 97, 108, 32, 36], a1.aj, [59]] : List aq))], rfl, avi, ?_⟩
 obtain rfl := si h
 exact en [0, 1] ⟨QX, rfl, rfl⟩ (.bu ⟨⟩) ⟨(ob rfl ⟨.aM, .o, ⟨⟩⟩), od, ⟨⟩⟩
 refine .d (sE h (fun amy h => ?_) (fun amy h => ?_))
 refine .d ⟨row cS ([[117, 110, 115, 101, 116, 40]] : List aq), aD cS ([[117, 110, 115, 101, 116, 40]] : List aq) rfl (aB rfl), (bk h fun MY amz h => (cp (aw (g1000 := g1000) (g1001 := g1001) (g1002 := 0) amz) [0, 1, 3] ⟨cz, ov, ov, ⟨⟩⟩ ?_))⟩
 rintro _ _ ⟨ab3, ab4, rfl, rfl⟩
 refine ⟨.aV [], [.row g1000 2 1 51 (fun _ => [aM ab3 0 g1000, .own 1 ab3 0 MY.af.ao.length]), .row ab3 1 MY.af.ao.length 5 (row cB MY.af.ao), .row 0 4 1 29 (fun _ => a1.lit), .row ab4 1 ([[117, 110, 115, 101, 116, 40]] : List aq).length 9 (row cS ([[117, 110, 115, 101, 116, 40]] : List aq))], rfl, avi, (.d ⟨rfl, ⟨rfl, _, rfl, (bk h fun abD V5 h => ⟨aA V5, _, (ax V5).trans (ae.au abD), (bk h fun MZ amA h => (cQ (kO _ _ _ _ amA _ _) [0, 1] ⟨cz, ov, ⟨⟩⟩ (fun HD => .aV []) (fun HD => [.row g1000 2 1 51 (fun _ => [aM HD 0 g1000, .own 1 HD 0 MZ.af.ao.length]), .row HD 1 MZ.af.ao.length 5 (row cB MZ.af.ao), .row 0 4 1 29 (fun _ => a1.lit), .row ab4 1 ([[117, 110, 115, 101, 116, 40]] : List aq).length 9 (row cS ([[117, 110, 115, 101, 116, 40]] : List aq))]) fun HD => ⟨row cS ([[41, 59]] : List aq), aD cS ([[41, 59]] : List aq) rfl (aB rfl), (bk h fun M0 amB h => (cp (aw (g1000 := g1000) (g1001 := HD) (g1002 := 0) amB) [0, 1, 4] ⟨cz, ov, ov, ⟨⟩⟩ ?_))⟩))⟩)⟩⟩)⟩
 rintro _ _ ⟨QY, aro, rfl, rfl⟩
 refine ⟨.aV [], [.row g1000 2 1 51 (fun _ => [aM QY 0 g1000, .own 1 QY 0 M0.af.ao.length]), .row QY 1 M0.af.ao.length 5 (row cB M0.af.ao), .row 0 4 1 29 (fun _ => a1.lit), .row ab4 1 ([[117, 110, 115, 101, 116, 40]] : List aq).length 9 (row cS ([[117, 110, 115, 101, 116, 40]] : List aq)), .row aro 1 ([[41, 59]] : List aq).length 9 (row cS ([[41, 59]] : List aq))], rfl, avi, ?_⟩
 obtain rfl := si h
 exact en [0, 1] ⟨QY, rfl, rfl⟩ (.bu ⟨⟩) ⟨(ob rfl ⟨.aM, .o, ⟨⟩⟩), od, ⟨⟩⟩
 refine .d (sE h (fun amC h => ?_) (fun amC h => ?_))
 refine ⟨rfl, ⟨rfl, _, rfl, (bk h fun abE V6 h => ⟨aA V6, _, (ax V6).trans (ae.au abE), (bk h fun M1 amD h => (cQ (zc _ _ _ _ amD _ _) [0, 1] ⟨cz, ov, ⟨⟩⟩ (fun HG => .aV []) (fun HG => [.row g1000 2 1 51 (fun _ => [aM HG 0 g1000, .own 1 HG 0 M1.af.ao.length]), .row HG 1 M1.af.ao.length 5 (row cB M1.af.ao), .row 0 4 1 29 (fun _ => a1.lit)]) fun HG => ?_))⟩)⟩⟩
 obtain rfl := si h
 exact en [0, 1] ⟨HG, rfl, rfl⟩ (.bu ⟨⟩) ⟨(ob rfl ⟨.aM, .o, ⟨⟩⟩), od, ⟨⟩⟩
 refine .d (sE h (fun amE h => ?_) (fun amE h => ?_))
 refine .d (.d ⟨rfl, ⟨rfl, _, rfl, (sE h (fun amF h => ?_) (fun amF h => ?_))⟩⟩)
 refine ⟨rfl, ⟨rfl, _, rfl, (bk h fun Aw V7 h => ⟨aA V7, _, (ax V7).trans (ae.au Aw), ⟨row cS ([[36], Aw.aj, [32, 61, 32]] : List aq), aD cS ([[36], Aw.aj, [32, 61, 32]] : List aq) rfl (aB rfl), (bk h fun M3 amG h => (cp (aw (g1000 := g1000) (g1001 := g1001) (g1002 := 0) amG) [0, 1, 3] ⟨cz, ov, ov, ⟨⟩⟩ ?_))⟩⟩)⟩⟩
 rintro _ _ ⟨ab5, amH, rfl, rfl⟩
 refine ⟨.aV [], [.row g1000 2 1 51 (fun _ => [aM ab5 0 g1000, .own 1 ab5 0 M3.af.ao.length]), .row ab5 1 M3.af.ao.length 5 (row cB M3.af.ao), .row 0 4 1 29 (fun _ => a1.lit), .row amH 1 ([[36], Aw.aj, [32, 61, 32]] : List aq).length 9 (row cS ([[36], Aw.aj, [32, 61, 32]] : List aq))], rfl, avi, ⟨rfl, ⟨rfl, _, rfl, ⟨rfl, ⟨rfl, _, rfl, (bk h fun abF V8 h => ⟨aA V8, _, (ax V8).trans (ae.au abF), (bk h fun M4 amI h => (cQ (zc _ _ _ _ amI _ _) [0, 1] ⟨cz, ov, ⟨⟩⟩ (fun HH => .aV []) (fun HH => [.row g1000 2 1 51 (fun _ => [aM HH 0 g1000, .own 1 HH 0 M4.af.ao.length]), .row HH 1 M4.af.ao.length 5 (row cB M4.af.ao), .row 0 4 1 29 (fun _ => a1.lit), .row amH 1 ([[36], Aw.aj, [32, 61, 32]] : List aq).length 9 (row cS ([[36], Aw.aj, [32, 61, 32]] : List aq))]) fun HH => ?_))⟩)⟩⟩⟩⟩⟩
 obtain rfl := si h
 exact en [0, 1] ⟨HH, rfl, rfl⟩ (.bu ⟨⟩) ⟨(ob rfl ⟨.aM, .o, ⟨⟩⟩), od, ⟨⟩⟩
 refine ⟨rfl, ⟨rfl, _, rfl, ⟨rfl, ⟨rfl, _, rfl, (bk h fun abG V9 h => ⟨aA V9, _, (ax V9).trans (ae.au abG), (bk h fun M5 amJ h => (cQ (zc _ _ _ _ amJ _ _) [0, 1] ⟨cz, ov, ⟨⟩⟩ (fun HI => .aV []) (fun HI => [.row g1000 2 1 51 (fun _ => [aM HI 0 g1000, .own 1 HI 0 M5.af.ao.length]), .row HI 1 M5.af.ao.length 5 (row cB M5.af.ao), .row 0 4 1 29 (fun _ => a1.lit)]) fun HI => ?_))⟩)⟩⟩⟩⟩
 obtain rfl := si h
 exact en [0, 1] ⟨HI, rfl, rfl⟩ (.bu ⟨⟩) ⟨(ob rfl ⟨.aM, .o, ⟨⟩⟩), od, ⟨⟩⟩
 refine .d (sE h (fun amK h => ?_) (fun amK h => ?_))
 refine ⟨rfl, ⟨rfl, _, rfl, (bk h fun G6 amL h => (aR (pL amL) ⟨row cS ([[105, 110, 99, 108, 117, 100, 101, 32], G6, [59]] : List aq), aD cS ([[105, 110, 99, 108, 117, 100, 101, 32], G6, [59]] : List aq) rfl (aB rfl), (bk h fun M6 amM h => (cp (aw (g1000 := g1000) (g1001 := g1001) (g1002 := 0) amM) [0, 1, 3] ⟨cz, ov, ov, ⟨⟩⟩ ?_))⟩))⟩⟩
 rintro _ _ ⟨QZ, arp, rfl, rfl⟩
 refine ⟨.aV [], [.row g1000 2 1 51 (fun _ => [aM QZ 0 g1000, .own 1 QZ 0 M6.af.ao.length]), .row QZ 1 M6.af.ao.length 5 (row cB M6.af.ao), .row 0 4 1 29 (fun _ => a1.lit), .row arp 1 ([[105, 110, 99, 108, 117, 100, 101, 32], G6, [59]] : List aq).length 9 (row cS ([[105, 110, 99, 108, 117, 100, 101, 32], G6, [59]] : List aq))], rfl, avi, ?_⟩
 obtain rfl := si h
 exact en [0, 1] ⟨QZ, rfl, rfl⟩ (.bu ⟨⟩) ⟨(ob rfl ⟨.aM, .o, ⟨⟩⟩), od, ⟨⟩⟩
 refine .d (sE h (fun amN h => ?_) (fun amN h => ?_))
 refine ⟨rfl, _, rfl, (bk h fun M7 amO h => (cQ (pM _ _ _ amO _ _) [0, 1] ⟨cz, ov, ⟨⟩⟩ (fun HJ => .aV []) (fun HJ => [.row g1000 2 1 51 (fun _ => [aM HJ 0 g1000, .own 1 HJ 0 M7.af.ao.length]), .row HJ 1 M7.af.ao.length 5 (row cB M7.af.ao), .row 0 4 1 29 (fun _ => a1.lit)]) fun HJ => ?_))⟩
 obtain rfl := si h
 exact en [0, 1] ⟨HJ, rfl, rfl⟩ (.bu ⟨⟩) ⟨(ob rfl ⟨.aM, .o, ⟨⟩⟩), od, ⟨⟩⟩
 refine .d (sE h (fun amP h => ?_) (fun amP h => ?_))
 refine ⟨rfl, _, rfl, (bk h fun M8 amQ h => (cQ (alT _ _ _ amQ _ _) [0, 1] ⟨cz, ov, ⟨⟩⟩ (fun HK => .aV []) (fun HK => [.row g1000 2 1 51 (fun _ => [aM HK 0 g1000, .own 1 HK 0 M8.af.ao.length]), .row HK 1 M8.af.ao.length 5 (row cB M8.af.ao), .row 0 4 1 29 (fun _ => a1.lit)]) fun HK => ?_))⟩
 obtain rfl := si h
 exact en [0, 1] ⟨HK, rfl, rfl⟩ (.bu ⟨⟩) ⟨(ob rfl ⟨.aM, .o, ⟨⟩⟩), od, ⟨⟩⟩
 refine .d (sE h (fun amR h => ?_) (fun amR h => ?_))
 refine ⟨rfl, _, rfl, (bk h fun M9 amS h => (cQ (alS _ _ _ amS _ _) [0, 1] ⟨cz, ov, ⟨⟩⟩ (fun HL => .aV []) (fun HL => [.row g1000 2 1 51 (fun _ => [aM HL 0 g1000, .own 1 HL 0 M9.af.ao.length]), .row HL 1 M9.af.ao.length 5 (row cB M9.af.ao), .row 0 4 1 29 (fun _ => a1.lit)]) fun HL => ?_))⟩
 obtain rfl := si h
 exact en [0, 1] ⟨HL, rfl, rfl⟩ (.bu ⟨⟩) ⟨(ob rfl ⟨.aM, .o, ⟨⟩⟩), od, ⟨⟩⟩
 refine .d (sE h (fun amT h => ?_) (fun amT h => ?_))
 refine ⟨rfl, _, rfl, (bk h fun Na amU h => (cQ (VV _ _ _ _ amU _ _) [0, 1] ⟨cz, ov, ⟨⟩⟩ (fun HM => .aV []) (fun HM => [.row g1000 2 1 51 (fun _ => [aM HM 0 g1000, .own 1 HM 0 Na.af.ao.length]), .row HM 1 Na.af.ao.length 5 (row cB Na.af.ao), .row 0 4 1 29 (fun _ => a1.lit)]) fun HM => ?_))⟩
 obtain rfl := si h
 exact en [0, 1] ⟨HM, rfl, rfl⟩ (.bu ⟨⟩) ⟨(ob rfl ⟨.aM, .o, ⟨⟩⟩), od, ⟨⟩⟩
 refine .d (sE h (fun amV h => ?_) (fun amV h => ?_))
 refine ⟨rfl, _, rfl, (bk h fun Nb amW h => (cQ (VV _ _ _ _ amW _ _) [0, 1] ⟨cz, ov, ⟨⟩⟩ (fun HN => .aV []) (fun HN => [.row g1000 2 1 51 (fun _ => [aM HN 0 g1000, .own 1 HN 0 Nb.af.ao.length]), .row HN 1 Nb.af.ao.length 5 (row cB Nb.af.ao), .row 0 4 1 29 (fun _ => a1.lit)]) fun HN => ?_))⟩
 obtain rfl := si h
 exact en [0, 1] ⟨HN, rfl, rfl⟩ (.bu ⟨⟩) ⟨(ob rfl ⟨.aM, .o, ⟨⟩⟩), od, ⟨⟩⟩
 obtain rfl := si h
 exact en [0, 1] ⟨g1001, rfl, rfl⟩ (.bu ⟨⟩) ⟨(ob rfl ⟨.aM, .o, ⟨⟩⟩), od, ⟨⟩⟩
 intro _ amX a0 a1 a2 r h g1000 g1001
 refine gq Tryz.func99 ?_
 refine .d (.d ⟨rfl, ⟨rfl, _, rfl, ⟨row cS ([a1, a2.aj] : List aq), aD cS ([a1, a2.aj] : List aq) rfl (aB rfl), (bk h fun D9 amY h => (cp (aw (g1000 := g1000) (g1001 := g1001) (g1002 := 0) amY) [0, 1, 3] ⟨cz, ov, ov, ⟨⟩⟩ ?_))⟩⟩⟩)
 rintro _ _ ⟨HO, amZ, rfl, rfl⟩
 refine ⟨.aV [], [.row g1000 2 1 51 (fun _ => [aM HO 0 g1000, .own 1 HO 0 D9.af.ao.length]), .row HO 1 D9.af.ao.length 5 (row cB D9.af.ao), .row 0 4 1 29 (fun _ => a2.lit), .row amZ 1 ([a1, a2.aj] : List aq).length 9 (row cS ([a1, a2.aj] : List aq))], rfl, avi, (.d ⟨rfl, ⟨rfl, _, rfl, ?_⟩⟩)⟩
 obtain ⟨arq, am0, am1⟩ := bd h
 replace h := am0
 refine .cut (fun σ η => ∃ Eb, ∃ ef, ∃ NB : Nat, (Eb, ef) = arq ∧ σ = [(0, .aL 0 g1000 0 0), (6, sl 4 ae.cells ef)] ∧ η = [.row g1000 2 1 51 (fun _ => [aM NB 0 g1000, .own 1 NB 0 Eb.length]), .row NB 1 Eb.length 5 (row cB Eb)]) ?_ ?_
 refine .d (sD h (fun am2 h => ?_) (fun am2 h => ?_))
 refine .t (bk h fun abJ Wa h => ⟨aA Wa, _, (ax Wa).trans (ae.au abJ), (.t (.t (.t (.t (sE h (fun am3 h => ?_) (fun am3 h => ?_))))))⟩)
 refine .d (bk h fun Ea Wb h => ⟨aA Wb, _, (ax Wb).trans (ae.au Ea), ⟨row cS ([[32, 101, 120, 116, 101, 110, 100, 115, 32], Ea.aj] : List aq), aD cS ([[32, 101, 120, 116, 101, 110, 100, 115, 32], Ea.aj] : List aq) rfl (aB rfl), (bk h fun Ni am4 h => (cp (aw (g1000 := g1000) (g1001 := HO) (g1002 := 0) am4) [0, 1, 4] ⟨cz, ov, ov, ⟨⟩⟩ ?_))⟩⟩)
 rintro _ _ ⟨Q0, ars, rfl, rfl⟩
 exact ⟨.aV [], [.row g1000 2 1 51 (fun _ => [aM Q0 0 g1000, .own 1 Q0 0 Ni.af.ao.length]), .row Q0 1 Ni.af.ao.length 5 (row cB Ni.af.ao), .row 0 4 1 29 (fun _ => a2.lit), .row amZ 1 ([a1, a2.aj] : List aq).length 9 (row cS ([a1, a2.aj] : List aq)), .row ars 1 ([[32, 101, 120, 116, 101, 110, 100, 115, 32], Ea.aj] : List aq).length 9 (row cS ([[32, 101, 120, 116, 101, 110, 100, 115, 32], Ea.aj] : List aq))], rfl, avi, (bk h fun QH NC h => ⟨trivial, ir NC, QH.length, row ae.cells QH, gh NC, gl NC, (ct ⟨_, _, Q0, si h, rfl, rfl⟩ (tk [0, 1] ⟨.p, .l, ⟨⟩⟩ ⟨(ob rfl ⟨.aM, .o, ⟨⟩⟩), od, ⟨⟩⟩))⟩)⟩
 exact ct ⟨_, _, HO, si h, rfl, rfl⟩ (tk [0, 1] ⟨.p, .l, ⟨⟩⟩ ⟨(ob rfl ⟨.aM, .o, ⟨⟩⟩), od, ⟨⟩⟩)
 exact .f (.f (.f (.f (.f (.f (ct ⟨_, _, HO, si h, rfl, rfl⟩ (tk [0, 1] ⟨.p, .l, ⟨⟩⟩ ⟨(ob rfl ⟨.aM, .o, ⟨⟩⟩), od, ⟨⟩⟩)))))))
 rintro _ _ ⟨Eb, ef, NB, rfl, rfl, rfl⟩
 replace h := am1
 refine .d ⟨row cS ([[32, 123, 32]] : List aq), aD cS ([[32, 123, 32]] : List aq) rfl (aB rfl), (bk h fun G7 am5 h => (cp (aw (g1000 := g1000) (g1001 := NB) (g1002 := 0) am5) [0, 1, 2] ⟨cz, ov, ov, ⟨⟩⟩ ?_))⟩
 rintro _ _ ⟨Q1, art, rfl, rfl⟩
 refine ⟨.aV [], [.row g1000 2 1 51 (fun _ => [aM Q1 0 g1000, .own 1 Q1 0 G7.af.ao.length]), .row Q1 1 G7.af.ao.length 5 (row cB G7.af.ao), .row art 1 ([[32, 123, 32]] : List aq).length 9 (row cS ([[32, 123, 32]] : List aq))], rfl, avi, ?_⟩
 obtain ⟨ab6, am6, am7⟩ := bd h
 replace h := am6
 refine .cut (fun σ η => ∃ Ec, ∃ ND : Nat, Ec = ab6 ∧ σ = [(0, .aL 0 g1000 0 0)] ∧ η = [.row g1000 2 1 51 (fun _ => [aM ND 0 g1000, .own 1 ND 0 Ec.length]), .row ND 1 Ec.length 5 (row cB Ec)]) ?_ ?_
 refine .d ?_
 have am8 := amX _ _ _ _ h
 refine le (nI (motive := fun am9 gX gy ana => ∀ CF : Nat, ef = am9 → ab6 = ana → aG _ _ [(0, .aL 0 g1000 0 0), (39, sl 4 ae.cells ef), (40, .int .i64 (ef.length : Int)), (41, .int .i64 gy)] [.row g1000 2 1 51 (fun _ => [aM CF 0 g1000, .own 1 CF 0 gX.length]), .row CF 1 gX.length 5 (row cB gX)]) ?_ ef G7.af.ao 0 ab6 am8 Q1 rfl rfl) (tk [0, 1] ⟨.p, .l, .i, .i, ⟨⟩⟩ ⟨(ob rfl ⟨.aM, .o, ⟨⟩⟩), od, ⟨⟩⟩)
 intro _ anb _ ane _ _ am9 gX gy ana h NF CF Q2 anf
 subst Q2
 subst anf
 refine aG.round (.d (.d (sD h (fun ang h => ?_) (fun ang h => ?_))))
 refine .d (.d (bk h fun fW Wc h => ⟨aA Wc, _, (ax Wc).trans (ae.au fW), ⟨rfl, _, fun _ => [.int .i64 fW.ai, .int .i64 fW.aC, .str fW.aj, sl 4 ae.cells fW.ah], rfl, bI rfl, (.d (.d ⟨rfl, ⟨rfl, _, rfl, (sE h (fun anh h => ?_) (fun anh h => ?_))⟩⟩))⟩⟩))
 refine .d ⟨rfl, ⟨rfl, _, rfl, ⟨row cS ([[117, 115, 101, 32], fW.aj, [59, 32]] : List aq), aD cS ([[117, 115, 101, 32], fW.aj, [59, 32]] : List aq) rfl (aB rfl), (bk h fun AJ ani h => (cp (aw (g1000 := g1000) (g1001 := CF) (g1002 := 0) ani) [0, 1, 3] ⟨cz, ov, ov, ⟨⟩⟩ ?_))⟩⟩⟩
 rintro _ _ ⟨Q3, aru, rfl, rfl⟩
 exact ⟨.aV [], [.row g1000 2 1 51 (fun _ => [aM Q3 0 g1000, .own 1 Q3 0 AJ.af.ao.length]), .row Q3 1 AJ.af.ao.length 5 (row cB AJ.af.ao), .row 0 4 1 29 (fun _ => fW.lit), .row aru 1 ([[117, 115, 101, 32], fW.aj, [59, 32]] : List aq).length 9 (row cS ([[117, 115, 101, 32], fW.aj, [59, 32]] : List aq))], rfl, avi, (lg (NF _ _ _ _ h Q3 rfl rfl) (tk [0, 1] ⟨.p, .l, .i, .i, ⟨⟩⟩ ⟨(ob rfl ⟨.aM, .o, ⟨⟩⟩), od, ⟨⟩⟩))⟩
 obtain ⟨arv, anj, ank⟩ := bd h
 replace h := anj
 refine .cut (fun σ η => ∃ pz, ∃ HP : Nat, pz = arv ∧ σ = [(0, .aL 0 g1000 0 0), (8, .aL 2 0 0 0), (39, sl 4 ae.cells ef), (40, .int .i64 (ef.length : Int)), (41, .int .i64 gy)] ∧ η = [.row g1000 2 1 51 (fun _ => [aM HP 0 g1000, .own 1 HP 0 pz.length]), .row HP 1 pz.length 5 (row cB pz), .row 0 4 1 29 (fun _ => fW.lit)]) ?_ ?_
 refine .d ⟨rfl, ⟨rfl, _, rfl, (sN h (fun anl h => ?_) (fun anl h => ?_))⟩⟩
 refine ⟨row cS ([[112, 114, 105, 118, 97, 116, 101, 32]] : List aq), aD cS ([[112, 114, 105, 118, 97, 116, 101, 32]] : List aq) rfl (aB rfl), (bk h fun wO anm h => (cp (aw (g1000 := g1000) (g1001 := CF) (g1002 := 0) anm) [0, 1, 3] ⟨cz, ov, ov, ⟨⟩⟩ ?_))⟩
 rintro _ _ ⟨Q4, arw, rfl, rfl⟩
 exact ⟨.aV [], [.row g1000 2 1 51 (fun _ => [aM Q4 0 g1000, .own 1 Q4 0 wO.af.ao.length]), .row Q4 1 wO.af.ao.length 5 (row cB wO.af.ao), .row 0 4 1 29 (fun _ => fW.lit), .row arw 1 ([[112, 114, 105, 118, 97, 116, 101, 32]] : List aq).length 9 (row cS ([[112, 114, 105, 118, 97, 116, 101, 32]] : List aq))], rfl, avi, (ct ⟨_, Q4, si h, rfl, rfl⟩ (tk [0, 1, 2] ⟨.p, .p, .l, .i, .i, ⟨⟩⟩ ⟨(ob rfl ⟨.aM, .o, ⟨⟩⟩), od, (bZ rfl), ⟨⟩⟩))⟩
 exact ct ⟨_, CF, si h, rfl, rfl⟩ (tk [0, 1, 2] ⟨.p, .p, .l, .i, .i, ⟨⟩⟩ ⟨(ob rfl ⟨.aM, .o, ⟨⟩⟩), od, (bZ rfl), ⟨⟩⟩)
 rintro _ _ ⟨pz, HP, rfl, rfl, rfl⟩
 replace h := ank
 obtain ⟨arx, ann, ano⟩ := bd h
 replace h := ann
 refine .cut (fun σ η => ∃ sZ, ∃ Q5 : Nat, sZ = arx ∧ σ = [(0, .aL 0 g1000 0 0), (8, .aL 2 0 0 0), (39, sl 4 ae.cells ef), (40, .int .i64 (ef.length : Int)), (41, .int .i64 gy)] ∧ η = [.row g1000 2 1 51 (fun _ => [aM Q5 0 g1000, .own 1 Q5 0 sZ.length]), .row Q5 1 sZ.length 5 (row cB sZ), .row 0 4 1 29 (fun _ => fW.lit)]) ?_ ?_
 refine .d ⟨rfl, ⟨rfl, _, rfl, (sN h (fun anp h => ?_) (fun anp h => ?_))⟩⟩
 refine ⟨row cS ([[115, 116, 97, 116, 105, 99, 32]] : List aq), aD cS ([[115, 116, 97, 116, 105, 99, 32]] : List aq) rfl (aB rfl), (bk h fun wP anq h => (cp (aw (g1000 := g1000) (g1001 := HP) (g1002 := 0) anq) [0, 1, 3] ⟨cz, ov, ov, ⟨⟩⟩ ?_))⟩
 rintro _ _ ⟨Q6, ary, rfl, rfl⟩
 exact ⟨.aV [], [.row g1000 2 1 51 (fun _ => [aM Q6 0 g1000, .own 1 Q6 0 wP.af.ao.length]), .row Q6 1 wP.af.ao.length 5 (row cB wP.af.ao), .row 0 4 1 29 (fun _ => fW.lit), .row ary 1 ([[115, 116, 97, 116, 105, 99, 32]] : List aq).length 9 (row cS ([[115, 116, 97, 116, 105, 99, 32]] : List aq))], rfl, avi, (ct ⟨_, Q6, si h, rfl, rfl⟩ (tk [0, 1, 2] ⟨.p, .p, .l, .i, .i, ⟨⟩⟩ ⟨(ob rfl ⟨.aM, .o, ⟨⟩⟩), od, (bZ rfl), ⟨⟩⟩))⟩
 exact ct ⟨_, HP, si h, rfl, rfl⟩ (tk [0, 1, 2] ⟨.p, .p, .l, .i, .i, ⟨⟩⟩ ⟨(ob rfl ⟨.aM, .o, ⟨⟩⟩), od, (bZ rfl), ⟨⟩⟩)
 rintro _ _ ⟨sZ, Q5, rfl, rfl, rfl⟩
 replace h := ano
 refine .d (.d ⟨rfl, ⟨rfl, _, rfl, (sE h (fun anr h => ?_) (fun anr h => ?_))⟩⟩)
 refine .float [(0, true), (1, true), (2, true), (3, true), (4, true), (5, true), (6, true), (7, true), (8, true), (9, false)] avs ?_
 refine ⟨rfl, ⟨rfl, _, rfl, (bk h fun Eg Wd h => ⟨ay Wd, Eg, az Wd, (bk h fun Eh We h => ⟨ay We, Eh, az We, ⟨rfl, ⟨rfl, _, rfl, (bk h fun Ei Wf h => ⟨aA Wf, _, (ax Wf).trans (ae.au Ei), (bk h fun AK ans h => (cQ (anb _ _ _ _ ans _ _) [0, 1] ⟨cz, ov, ⟨⟩⟩ (fun HQ => .aV []) (fun HQ => [.row g1000 2 1 51 (fun _ => [aM HQ 0 g1000, .own 1 HQ 0 AK.af.ao.length]), .row HQ 1 AK.af.ao.length 5 (row cB AK.af.ao), .row 0 4 1 29 (fun _ => fW.lit)]) fun HQ => ⟨row cS ([[32]] : List aq), aD cS ([[32]] : List aq) rfl (aB rfl), (bk h fun AL ant h => (cp (aw (g1000 := g1000) (g1001 := HQ) (g1002 := 0) ant) [0, 1, 3] ⟨cz, ov, ov, ⟨⟩⟩ ?_))⟩))⟩)⟩⟩⟩)⟩)⟩⟩
 rintro _ _ ⟨Q7, arz, rfl, rfl⟩
 exact ⟨.aV [], [.row g1000 2 1 51 (fun _ => [aM Q7 0 g1000, .own 1 Q7 0 AL.af.ao.length]), .row Q7 1 AL.af.ao.length 5 (row cB AL.af.ao), .row 0 4 1 29 (fun _ => fW.lit), .row arz 1 ([[32]] : List aq).length 9 (row cS ([[32]] : List aq))], rfl, avi, (lg (NF _ _ _ _ h Q7 rfl rfl) (tk [0, 1] ⟨.p, .l, .i, .i, ⟨⟩⟩ ⟨(ob rfl ⟨.aM, .o, ⟨⟩⟩), od, ⟨⟩⟩))⟩
 refine ⟨rfl, _, rfl, (bk h fun AM anu h => (cQ (ane _ _ _ anu _ _) [0, 1] ⟨cz, ov, ⟨⟩⟩ (fun HR => .aV []) (fun HR => [.row g1000 2 1 51 (fun _ => [aM HR 0 g1000, .own 1 HR 0 AM.af.ao.length]), .row HR 1 AM.af.ao.length 5 (row cB AM.af.ao), .row 0 4 1 29 (fun _ => fW.lit)]) fun HR => ⟨row cS ([[32]] : List aq), aD cS ([[32]] : List aq) rfl (aB rfl), (bk h fun AN anv h => (cp (aw (g1000 := g1000) (g1001 := HR) (g1002 := 0) anv) [0, 1, 3] ⟨cz, ov, ov, ⟨⟩⟩ ?_))⟩))⟩
 rintro _ _ ⟨Q8, arA, rfl, rfl⟩
 exact ⟨.aV [], [.row g1000 2 1 51 (fun _ => [aM Q8 0 g1000, .own 1 Q8 0 AN.af.ao.length]), .row Q8 1 AN.af.ao.length 5 (row cB AN.af.ao), .row 0 4 1 29 (fun _ => fW.lit), .row arA 1 ([[32]] : List aq).length 9 (row cS ([[32]] : List aq))], rfl, avi, (lg (NF _ _ _ _ h Q8 rfl rfl) (tk [0, 1] ⟨.p, .l, .i, .i, ⟨⟩⟩ ⟨(ob rfl ⟨.aM, .o, ⟨⟩⟩), od, ⟨⟩⟩))⟩
 exact ct ⟨_, CF, si h, rfl, rfl⟩ (tk [0, 1] ⟨.p, ⟨⟩⟩ ⟨(ob rfl ⟨.aM, .o, ⟨⟩⟩), od, ⟨⟩⟩)
 rintro _ _ ⟨Ec, ND, rfl, rfl, rfl⟩
 replace h := am7
 refine ⟨row cS ([[125]] : List aq), aD cS ([[125]] : List aq) rfl (aB rfl), (bk h fun Nj anw h => (cp (aw (g1000 := g1000) (g1001 := ND) (g1002 := 0) anw) [0, 1, 2] ⟨cz, ov, ov, ⟨⟩⟩ ?_))⟩
 rintro _ _ ⟨Q9, arB, rfl, rfl⟩
 refine ⟨.aV [], [.row g1000 2 1 51 (fun _ => [aM Q9 0 g1000, .own 1 Q9 0 Nj.af.ao.length]), .row Q9 1 Nj.af.ao.length 5 (row cB Nj.af.ao), .row arB 1 ([[125]] : List aq).length 9 (row cS ([[125]] : List aq))], rfl, avi, ?_⟩
 obtain rfl := si h
 exact en [0, 1] ⟨Q9, rfl, rfl⟩ (.bu ⟨⟩) ⟨(ob rfl ⟨.aM, .o, ⟨⟩⟩), od, ⟨⟩⟩
 intro F0 F1 F2 lQ lR hF2 ef gX gy o h
 exact .mk F2 hF2 F1 lR F0 lQ ef gX gy o h
 intro _ pM a0 a1 r h g1000 g1001
 refine gq Tryz.func98 ?_
 refine .d (.d ⟨rfl, ⟨rfl, _, rfl, ⟨row cS ([[102, 117, 110, 99, 116, 105, 111, 110, 32], a1.aj] : List aq), aD cS ([[102, 117, 110, 99, 116, 105, 111, 110, 32], a1.aj] : List aq) rfl (aB rfl), (bk h fun Nd anx h => (cp (aw (g1000 := g1000) (g1001 := g1001) (g1002 := 0) anx) [0, 1, 3] ⟨cz, ov, ov, ⟨⟩⟩ ?_))⟩⟩⟩)
 rintro _ _ ⟨Ra, Rb, rfl, rfl⟩
 refine ⟨.aV [], [.row g1000 2 1 51 (fun _ => [aM Ra 0 g1000, .own 1 Ra 0 Nd.af.ao.length]), .row Ra 1 Nd.af.ao.length 5 (row cB Nd.af.ao), .row 0 4 1 29 (fun _ => a1.lit), .row Rb 1 ([[102, 117, 110, 99, 116, 105, 111, 110, 32], a1.aj] : List aq).length 9 (row cS ([[102, 117, 110, 99, 116, 105, 111, 110, 32], a1.aj] : List aq))], rfl, avi, (.d ⟨rfl, ⟨rfl, _, rfl, (bk h fun Nf anz h => (cQ (j3 (g1000 := g1000) (g1001 := Ra) anz) [0, 1] ⟨cz, ov, ⟨⟩⟩ (fun HT => .aV []) (fun HT => [.row g1000 2 1 51 (fun _ => [aM HT 0 g1000, .own 1 HT 0 Nf.af.ao.length]), .row HT 1 Nf.af.ao.length 5 (row cB Nf.af.ao), .row 0 4 1 29 (fun _ => a1.lit), .row Rb 1 ([[102, 117, 110, 99, 116, 105, 111, 110, 32], a1.aj] : List aq).length 9 (row cS ([[102, 117, 110, 99, 116, 105, 111, 110, 32], a1.aj] : List aq))]) fun HT => (.d ⟨row cS ([[32]] : List aq), aD cS ([[32]] : List aq) rfl (aB rfl), (bk h fun Ng anA h => (cp (aw (g1000 := g1000) (g1001 := HT) (g1002 := 0) anA) [0, 1, 4] ⟨cz, ov, ov, ⟨⟩⟩ ?_))⟩)))⟩⟩)⟩
 rintro _ _ ⟨ab7, anB, rfl, rfl⟩
 refine ⟨.aV [], [.row g1000 2 1 51 (fun _ => [aM ab7 0 g1000, .own 1 ab7 0 Ng.af.ao.length]), .row ab7 1 Ng.af.ao.length 5 (row cB Ng.af.ao), .row 0 4 1 29 (fun _ => a1.lit), .row Rb 1 ([[102, 117, 110, 99, 116, 105, 111, 110, 32], a1.aj] : List aq).length 9 (row cS ([[102, 117, 110, 99, 116, 105, 111, 110, 32], a1.aj] : List aq)), .row anB 1 ([[32]] : List aq).length 9 (row cS ([[32]] : List aq))], rfl, avi, ⟨rfl, ⟨rfl, _, rfl, ⟨rfl, ⟨rfl, _, rfl, (bk h fun abI Wg h => ⟨aA Wg, _, (ax Wg).trans (ae.au abI), (bk h fun Nh anC h => (cQ (pM _ _ _ anC _ _) [0, 1] ⟨cz, ov, ⟨⟩⟩ (fun HU => .aV []) (fun HU => [.row g1000 2 1 51 (fun _ => [aM HU 0 g1000, .own 1 HU 0 Nh.af.ao.length]), .row HU 1 Nh.af.ao.length 5 (row cB Nh.af.ao), .row 0 4 1 29 (fun _ => a1.lit), .row Rb 1 ([[102, 117, 110, 99, 116, 105, 111, 110, 32], a1.aj] : List aq).length 9 (row cS ([[102, 117, 110, 99, 116, 105, 111, 110, 32], a1.aj] : List aq)), .row anB 1 ([[32]] : List aq).length 9 (row cS ([[32]] : List aq))]) fun HU => ?_))⟩)⟩⟩⟩⟩⟩
 obtain rfl := si h
 exact en [0, 1] ⟨HU, rfl, rfl⟩ (.bu ⟨⟩) ⟨(ob rfl ⟨.aM, .o, ⟨⟩⟩), od, ⟨⟩⟩
 intro _ kO a0 a1 a2 r h g1000 g1001
 refine gq Tryz.func95 ?_
 refine .d (.d ⟨row cS ([a1] : List aq), aD cS ([a1] : List aq) rfl (aB rfl), (bk h fun BY K7 h => (cp (aw (g1000 := g1000) (g1001 := g1001) (g1002 := 0) K7) [0, 1, 3] ⟨cz, ov, ov, ⟨⟩⟩ ?_))⟩)
 rintro _ _ ⟨ab8, ab9, rfl, rfl⟩
 refine ⟨.aV [], [.row g1000 2 1 51 (fun _ => [aM ab8 0 g1000, .own 1 ab8 0 BY.af.ao.length]), .row ab8 1 BY.af.ao.length 5 (row cB BY.af.ao), .row 0 4 1 29 (fun _ => a2.lit), .row ab9 1 ([a1] : List aq).length 9 (row cS ([a1] : List aq))], rfl, avi, (.d ⟨rfl, _, rfl, (bk h fun MC anD h => (cQ (kO _ _ _ _ anD _ _) [0, 1] ⟨cz, ov, ⟨⟩⟩ (fun HV => .aV []) (fun HV => [.row g1000 2 1 51 (fun _ => [aM HV 0 g1000, .own 1 HV 0 MC.af.ao.length]), .row HV 1 MC.af.ao.length 5 (row cB MC.af.ao), .row 0 4 1 29 (fun _ => a2.lit), .row ab9 1 ([a1] : List aq).length 9 (row cS ([a1] : List aq))]) fun HV => ⟨row cS ([[59]] : List aq), aD cS ([[59]] : List aq) rfl (aB rfl), (bk h fun MD anE h => (cp (aw (g1000 := g1000) (g1001 := HV) (g1002 := 0) anE) [0, 1, 4] ⟨cz, ov, ov, ⟨⟩⟩ ?_))⟩))⟩)⟩
 rintro _ _ ⟨Rc, arC, rfl, rfl⟩
 refine ⟨.aV [], [.row g1000 2 1 51 (fun _ => [aM Rc 0 g1000, .own 1 Rc 0 MD.af.ao.length]), .row Rc 1 MD.af.ao.length 5 (row cB MD.af.ao), .row 0 4 1 29 (fun _ => a2.lit), .row ab9 1 ([a1] : List aq).length 9 (row cS ([a1] : List aq)), .row arC 1 ([[59]] : List aq).length 9 (row cS ([[59]] : List aq))], rfl, avi, ?_⟩
 obtain rfl := si h
 exact en [0, 1] ⟨Rc, rfl, rfl⟩ (.bu ⟨⟩) ⟨(ob rfl ⟨.aM, .o, ⟨⟩⟩), od, ⟨⟩⟩
 intro _ _ pM anF a0 a1 r h g1000 g1001
 refine gq Tryz.func97 ?_
 refine .d (.d ⟨row cS ([[116, 114, 121, 32]] : List aq), aD cS ([[116, 114, 121, 32]] : List aq) rfl (aB rfl), (bk h fun Nc anG h => (cp (aw (g1000 := g1000) (g1001 := g1001) (g1002 := 0) anG) [0, 1, 3] ⟨cz, ov, ov, ⟨⟩⟩ ?_))⟩)
 rintro _ _ ⟨aca, anH, rfl, rfl⟩
 refine ⟨.aV [], [.row g1000 2 1 51 (fun _ => [aM aca 0 g1000, .own 1 aca 0 Nc.af.ao.length]), .row aca 1 Nc.af.ao.length 5 (row cB Nc.af.ao), .row 0 4 1 29 (fun _ => a1.lit), .row anH 1 ([[116, 114, 121, 32]] : List aq).length 9 (row cS ([[116, 114, 121, 32]] : List aq))], rfl, avi, (.d ⟨rfl, ⟨rfl, _, rfl, (bk h fun abH BQ h => ⟨aA BQ, _, (ax BQ).trans (ae.au abH), (bk h fun zU KA h => (cQ (pM _ _ _ KA _ _) [0, 1] ⟨cz, ov, ⟨⟩⟩ (fun HW => .aV []) (fun HW => [.row g1000 2 1 51 (fun _ => [aM HW 0 g1000, .own 1 HW 0 zU.af.ao.length]), .row HW 1 zU.af.ao.length 5 (row cB zU.af.ao), .row 0 4 1 29 (fun _ => a1.lit), .row anH 1 ([[116, 114, 121, 32]] : List aq).length 9 (row cS ([[116, 114, 121, 32]] : List aq))]) fun HW => (.d ⟨rfl, ⟨rfl, _, rfl, (bk h fun fV NG h => ⟨trivial, ir NG, fV.length, row ae.cells fV, gh NG, gl NG, ?_⟩)⟩⟩)))⟩)⟩⟩)⟩
 have anI := anF _ _ _ _ h
 refine le (oT (motive := fun anJ iB ie anK => ∀ Ek : Nat, fV = anJ → r = anK → aG _ _ [(0, .aL 0 g1000 0 0), (17, sl 4 ae.cells fV), (18, .int .i64 (fV.length : Int)), (19, .int .i64 ie)] [.row g1000 2 1 51 (fun _ => [aM Ek 0 g1000, .own 1 Ek 0 iB.length]), .row Ek 1 iB.length 5 (row cB iB)]) ?_ fV zU.af.ao 0 r anI HW rfl rfl) (tk [0, 1] ⟨.p, .l, .i, .i, ⟨⟩⟩ ⟨(ob rfl ⟨.aM, .o, ⟨⟩⟩), od, ⟨⟩⟩)
 intro _ Wh _ _ anJ iB ie anK h Wi Ek Rd anL
 subst Rd
 subst anL
 refine aG.round (.d (.d (sD h (fun anM h => ?_) (fun anM h => ?_))))
 refine .d (.d (bk h fun jF Wj h => ⟨aA Wj, _, (ax Wj).trans (ae.au jF), ⟨rfl, _, fun _ => [.int .i64 jF.ai, .int .i64 jF.aC, .str jF.aj, sl 4 ae.cells jF.ah], rfl, bI rfl, (.d ⟨rfl, ⟨rfl, _, rfl, (sE h (fun anN h => ?_) (fun anN h => ?_))⟩⟩)⟩⟩))
 refine .d (.float [(0, true), (1, true), (2, true), (3, true), (4, true), (5, true), (6, true), (7, true), (8, false), (9, false)] avs ?_)
 refine ⟨rfl, ⟨rfl, _, rfl, ⟨rfl, ⟨rfl, _, rfl, (bk h fun ud Wk h => ⟨aA Wk, _, (ax Wk).trans (ae.au ud), ⟨row cS ([[32, 99, 97, 116, 99, 104, 32, 40], jF.aj, [32, 36], ud.aj, [41, 32]] : List aq), aD cS ([[32, 99, 97, 116, 99, 104, 32, 40], jF.aj, [32, 36], ud.aj, [41, 32]] : List aq) rfl (aB rfl), (bk h fun AF anO h => (cp (aw (g1000 := g1000) (g1001 := Ek) (g1002 := 0) anO) [0, 1, 3] ⟨cz, ov, ov, ⟨⟩⟩ ?_))⟩⟩)⟩⟩⟩⟩
 rintro _ _ ⟨acb, anP, rfl, rfl⟩
 exact ⟨.aV [], [.row g1000 2 1 51 (fun _ => [aM acb 0 g1000, .own 1 acb 0 AF.af.ao.length]), .row acb 1 AF.af.ao.length 5 (row cB AF.af.ao), .row 0 4 1 29 (fun _ => jF.lit), .row anP 1 ([[32, 99, 97, 116, 99, 104, 32, 40], jF.aj, [32, 36], ud.aj, [41, 32]] : List aq).length 9 (row cS ([[32, 99, 97, 116, 99, 104, 32, 40], jF.aj, [32, 36], ud.aj, [41, 32]] : List aq))], rfl, avi, ⟨rfl, ⟨rfl, _, rfl, (bk h fun Ee Wl h => ⟨aA Wl, _, (ax Wl).trans (ae.au Ee), (bk h fun AG anQ h => (cQ (Wh _ _ _ anQ _ _) [0, 1] ⟨cz, ov, ⟨⟩⟩ (fun HZ => .aV []) (fun HZ => [.row g1000 2 1 51 (fun _ => [aM HZ 0 g1000, .own 1 HZ 0 AG.af.ao.length]), .row HZ 1 AG.af.ao.length 5 (row cB AG.af.ao), .row 0 4 1 29 (fun _ => jF.lit), .row anP 1 ([[32, 99, 97, 116, 99, 104, 32, 40], jF.aj, [32, 36], ud.aj, [41, 32]] : List aq).length 9 (row cS ([[32, 99, 97, 116, 99, 104, 32, 40], jF.aj, [32, 36], ud.aj, [41, 32]] : List aq))]) fun HZ => (lg (Wi _ _ _ _ h HZ rfl rfl) (tk [0, 1] ⟨.p, .l, .i, .i, ⟨⟩⟩ ⟨(ob rfl ⟨.aM, .o, ⟨⟩⟩), od, ⟨⟩⟩))))⟩)⟩⟩⟩
 refine .d ⟨row cS ([[32, 102, 105, 110, 97, 108, 108, 121, 32]] : List aq), aD cS ([[32, 102, 105, 110, 97, 108, 108, 121, 32]] : List aq) rfl (aB rfl), (bk h fun AH anR h => (cp (aw (g1000 := g1000) (g1001 := Ek) (g1002 := 0) anR) [0, 1, 3] ⟨cz, ov, ov, ⟨⟩⟩ ?_))⟩
 rintro _ _ ⟨acd, anS, rfl, rfl⟩
 exact ⟨.aV [], [.row g1000 2 1 51 (fun _ => [aM acd 0 g1000, .own 1 acd 0 AH.af.ao.length]), .row acd 1 AH.af.ao.length 5 (row cB AH.af.ao), .row 0 4 1 29 (fun _ => jF.lit), .row anS 1 ([[32, 102, 105, 110, 97, 108, 108, 121, 32]] : List aq).length 9 (row cS ([[32, 102, 105, 110, 97, 108, 108, 121, 32]] : List aq))], rfl, avi, ⟨rfl, ⟨rfl, _, rfl, (bk h fun Ef Wm h => ⟨aA Wm, _, (ax Wm).trans (ae.au Ef), (bk h fun AI anT h => (cQ (Wh _ _ _ anT _ _) [0, 1] ⟨cz, ov, ⟨⟩⟩ (fun H0 => .aV []) (fun H0 => [.row g1000 2 1 51 (fun _ => [aM H0 0 g1000, .own 1 H0 0 AI.af.ao.length]), .row H0 1 AI.af.ao.length 5 (row cB AI.af.ao), .row 0 4 1 29 (fun _ => jF.lit), .row anS 1 ([[32, 102, 105, 110, 97, 108, 108, 121, 32]] : List aq).length 9 (row cS ([[32, 102, 105, 110, 97, 108, 108, 121, 32]] : List aq))]) fun H0 => (lg (Wi _ _ _ _ h H0 rfl rfl) (tk [0, 1] ⟨.p, .l, .i, .i, ⟨⟩⟩ ⟨(ob rfl ⟨.aM, .o, ⟨⟩⟩), od, ⟨⟩⟩))))⟩)⟩⟩⟩
 obtain rfl := si h
 exact en [0, 1] ⟨Ek, rfl, rfl⟩ (.bu ⟨⟩) ⟨(ob rfl ⟨.aM, .o, ⟨⟩⟩), od, ⟨⟩⟩
 intro F0 F1 lQ lR fV iB ie o h
 exact .mk F0 lQ F1 lR fV iB ie o h
 intro _ anU a0 a1 r h g1000 g1001
 refine gq Tryz.func156 ?_
 refine .d ⟨row cS ([[40]] : List aq), aD cS ([[40]] : List aq) rfl (aB rfl), (bk h fun G0 anV h => (cp (aw (g1000 := g1000) (g1001 := g1001) (g1002 := 0) anV) [0, 1, 2] ⟨cz, ov, ov, ⟨⟩⟩ ?_))⟩
 rintro _ _ ⟨Re, arD, rfl, rfl⟩
 refine ⟨.aV [], [.row g1000 2 1 51 (fun _ => [aM Re 0 g1000, .own 1 Re 0 G0.af.ao.length]), .row Re 1 G0.af.ao.length 5 (row cB G0.af.ao), .row arD 1 ([[40]] : List aq).length 9 (row cS ([[40]] : List aq))], rfl, avi, ?_⟩
 obtain ⟨ace, anW, anX⟩ := bd h
 replace h := anW
 refine .cut (fun σ η => ∃ D3, ∃ NH : Nat, D3 = ace ∧ σ = [(0, .aL 0 g1000 0 0)] ∧ η = [.row g1000 2 1 51 (fun _ => [aM NH 0 g1000, .own 1 NH 0 D3.length]), .row NH 1 D3.length 5 (row cB D3)]) ?_ ?_
 refine .d ?_
 have anY := anU _ _ _ _ h
 refine le (oq (motive := fun anZ iz gK an0 => ∀ H2 : Nat, a1 = anZ → ace = an0 → aG _ _ [(0, .aL 0 g1000 0 0), (9, sl 4 ae.cells a1), (10, .int .i64 (a1.length : Int)), (11, .int .i64 gK)] [.row g1000 2 1 51 (fun _ => [aM H2 0 g1000, .own 1 H2 0 iz.length]), .row H2 1 iz.length 5 (row cB iz)]) ?_ a1 G0.af.ao 0 ace anY Re rfl rfl) (tk [0, 1] ⟨.p, .l, .i, .i, ⟨⟩⟩ ⟨(ob rfl ⟨.aM, .o, ⟨⟩⟩), od, ⟨⟩⟩)
 intro _ Wn _ _ anZ iz gK an0 h Wo H2 Rf an1
 subst Rf
 subst an1
 refine aG.round (.d (.d (sD h (fun K0 h => ?_) (fun K0 h => ?_))))
 refine .d (.d (bk h fun pJ Wp h => ⟨aA Wp, _, (ax Wp).trans (ae.au pJ), ⟨rfl, _, fun _ => [.int .i64 pJ.ai, .int .i64 pJ.aC, .str pJ.aj, sl 4 ae.cells pJ.ah], rfl, bI rfl, (.d (.d (sD h (fun K1 h => ?_) (fun K1 h => ?_))))⟩⟩))
 refine ⟨row cS ([[44, 32]] : List aq), aD cS ([[44, 32]] : List aq) rfl (aB rfl), (bk h fun Ax an2 h => (cp (aw (g1000 := g1000) (g1001 := H2) (g1002 := 0) an2) [0, 1, 3] ⟨cz, ov, ov, ⟨⟩⟩ ?_))⟩
 rintro _ _ ⟨acf, an3, rfl, rfl⟩
 exact ⟨.aV [], [.row g1000 2 1 51 (fun _ => [aM acf 0 g1000, .own 1 acf 0 Ax.af.ao.length]), .row acf 1 Ax.af.ao.length 5 (row cB Ax.af.ao), .row 0 4 1 29 (fun _ => pJ.lit), .row an3 1 ([[44, 32]] : List aq).length 9 (row cS ([[44, 32]] : List aq))], rfl, avi, ⟨rfl, _, rfl, (bk h fun Ay an4 h => (cQ (Wn _ _ _ _ an4 _ _) [0, 1] ⟨cz, ov, ⟨⟩⟩ (fun H3 => .aV []) (fun H3 => [.row g1000 2 1 51 (fun _ => [aM H3 0 g1000, .own 1 H3 0 Ay.af.ao.length]), .row H3 1 Ay.af.ao.length 5 (row cB Ay.af.ao), .row 0 4 1 29 (fun _ => pJ.lit), .row an3 1 ([[44, 32]] : List aq).length 9 (row cS ([[44, 32]] : List aq))]) fun H3 => (lg (Wo _ _ _ _ h H3 rfl rfl) (tk [0, 1] ⟨.p, .l, .i, .i, ⟨⟩⟩ ⟨(ob rfl ⟨.aM, .o, ⟨⟩⟩), od, ⟨⟩⟩))))⟩⟩
 exact ⟨rfl, _, rfl, (bk h fun Az an5 h => (cQ (Wn _ _ _ _ an5 _ _) [0, 1] ⟨cz, ov, ⟨⟩⟩ (fun H4 => .aV []) (fun H4 => [.row g1000 2 1 51 (fun _ => [aM H4 0 g1000, .own 1 H4 0 Az.af.ao.length]), .row H4 1 Az.af.ao.length 5 (row cB Az.af.ao), .row 0 4 1 29 (fun _ => pJ.lit)]) fun H4 => (lg (Wo _ _ _ _ h H4 rfl rfl) (tk [0, 1] ⟨.p, .l, .i, .i, ⟨⟩⟩ ⟨(ob rfl ⟨.aM, .o, ⟨⟩⟩), od, ⟨⟩⟩))))⟩
 exact ct ⟨_, H2, si h, rfl, rfl⟩ (tk [0, 1] ⟨.p, ⟨⟩⟩ ⟨(ob rfl ⟨.aM, .o, ⟨⟩⟩), od, ⟨⟩⟩)
 rintro _ _ ⟨D3, NH, rfl, rfl, rfl⟩
 replace h := anX
 refine ⟨row cS ([[41]] : List aq), aD cS ([[41]] : List aq) rfl (aB rfl), (bk h fun Mx an6 h => (cp (aw (g1000 := g1000) (g1001 := NH) (g1002 := 0) an6) [0, 1, 2] ⟨cz, ov, ov, ⟨⟩⟩ ?_))⟩
 rintro _ _ ⟨Rg, arE, rfl, rfl⟩
 refine ⟨.aV [], [.row g1000 2 1 51 (fun _ => [aM Rg 0 g1000, .own 1 Rg 0 Mx.af.ao.length]), .row Rg 1 Mx.af.ao.length 5 (row cB Mx.af.ao), .row arE 1 ([[41]] : List aq).length 9 (row cS ([[41]] : List aq))], rfl, avi, ?_⟩
 obtain rfl := si h
 exact en [0, 1] ⟨Rg, rfl, rfl⟩ (.bu ⟨⟩) ⟨(ob rfl ⟨.aM, .o, ⟨⟩⟩), od, ⟨⟩⟩
 intro F0 F1 lQ lR a1 iz gK o h
 exact .mk F0 lQ F1 lR a1 iz gK o h
 intro _ kO a0 a1 a2 a3 a4 r h g1000 g1001
 refine gq Tryz.func154 ?_
 refine .d (.d ⟨rfl, ⟨rfl, _, rfl, (bk h fun abr BG h => ⟨aA BG, _, (ax BG).trans (ae.au abr), (bk h fun BC Ks h => (cQ (kO _ _ _ _ Ks _ _) [0, 1] ⟨cz, ov, ⟨⟩⟩ (fun H5 => .aV []) (fun H5 => [.row g1000 2 1 51 (fun _ => [aM H5 0 g1000, .own 1 H5 0 BC.af.ao.length]), .row H5 1 BC.af.ao.length 5 (row cB BC.af.ao), .row 0 4 1 29 (fun _ => a1.lit)]) fun H5 => (.d ⟨row cS ([a3] : List aq), aD cS ([a3] : List aq) rfl (aB rfl), (bk h fun v210 an7 h => (cp (aw (g1000 := g1000) (g1001 := H5) (g1002 := 0) an7) [0, 1, 3] ⟨cz, ov, ov, ⟨⟩⟩ ?_))⟩)))⟩)⟩⟩)
 rintro _ _ ⟨acg, an8, rfl, rfl⟩
 refine ⟨.aV [], [.row g1000 2 1 51 (fun _ => [aM acg 0 g1000, .own 1 acg 0 v210.af.ao.length]), .row acg 1 v210.af.ao.length 5 (row cB v210.af.ao), .row 0 4 1 29 (fun _ => a1.lit), .row an8 1 ([a3] : List aq).length 9 (row cS ([a3] : List aq))], rfl, avi, ⟨rfl, ⟨rfl, _, rfl, (bk h fun abt Wq h => ⟨aA Wq, _, (ax Wq).trans (ae.au abt), (bk h fun Mw an9 h => (cQ (kO _ _ _ _ an9 _ _) [0, 1] ⟨cz, ov, ⟨⟩⟩ (fun H6 => .aV []) (fun H6 => [.row g1000 2 1 51 (fun _ => [aM H6 0 g1000, .own 1 H6 0 Mw.af.ao.length]), .row H6 1 Mw.af.ao.length 5 (row cB Mw.af.ao), .row 0 4 1 29 (fun _ => a1.lit), .row an8 1 ([a3] : List aq).length 9 (row cS ([a3] : List aq))]) fun H6 => ?_))⟩)⟩⟩⟩
 obtain rfl := si h
 exact en [0, 1] ⟨H6, rfl, rfl⟩ (.bu ⟨⟩) ⟨(ob rfl ⟨.aM, .o, ⟨⟩⟩), od, ⟨⟩⟩
 intro _ aoa a0 a1 r h g1000 g1001
 refine gq Tryz.func153 ?_
 refine .d (.d ⟨row cS ([[91]] : List aq), aD cS ([[91]] : List aq) rfl (aB rfl), (bk h fun zG JE h => (cp (aw (g1000 := g1000) (g1001 := g1001) (g1002 := 0) JE) [0, 1, 3] ⟨cz, ov, ov, ⟨⟩⟩ ?_))⟩)
 rintro _ _ ⟨Rh, arF, rfl, rfl⟩
 refine ⟨.aV [], [.row g1000 2 1 51 (fun _ => [aM Rh 0 g1000, .own 1 Rh 0 zG.af.ao.length]), .row Rh 1 zG.af.ao.length 5 (row cB zG.af.ao), .row 0 4 1 29 (fun _ => a1.lit), .row arF 1 ([[91]] : List aq).length 9 (row cS ([[91]] : List aq))], rfl, avi, ?_⟩
 obtain ⟨ach, aob, aoc⟩ := bd h
 replace h := aob
 refine .cut (fun σ η => ∃ D4, ∃ NI : Nat, D4 = ach ∧ σ = [(0, .aL 0 g1000 0 0)] ∧ η = [.row g1000 2 1 51 (fun _ => [aM NI 0 g1000, .own 1 NI 0 D4.length]), .row NI 1 D4.length 5 (row cB D4)]) ?_ ?_
 refine .d ⟨rfl, ⟨rfl, _, rfl, ?_⟩⟩
 have aod := aoa _ _ _ _ h
 refine le (ot (motive := fun aoe iA gG aof => ∀ El : Nat, a1 = aoe → ach = aof → aG _ _ [(0, .aL 0 g1000 0 0), (10, sl 4 ae.cells a1.ah), (11, .int .i64 (a1.ah.length : Int)), (12, .int .i64 gG)] [.row g1000 2 1 51 (fun _ => [aM El 0 g1000, .own 1 El 0 iA.length]), .row El 1 iA.length 5 (row cB iA)]) ?_ a1 zG.af.ao 0 ach aod Rh rfl rfl) (tk [0, 1] ⟨.p, .l, .i, .i, ⟨⟩⟩ ⟨(ob rfl ⟨.aM, .o, ⟨⟩⟩), od, ⟨⟩⟩)
 intro _ aog _ aoh _ _ aoe iA gG aof h Wr El Ri aoi
 subst Ri
 subst aoi
 refine aG.round (.d (.d (sD h (fun Bv h => ?_) (fun Bv h => ?_))))
 refine .d (.d (bk h fun ly rY h => ⟨aA rY, _, (ax rY).trans (ae.au ly), ⟨rfl, _, fun _ => [.int .i64 ly.ai, .int .i64 ly.aC, .str ly.aj, sl 4 ae.cells ly.ah], rfl, bI rfl, ?_⟩⟩))
 obtain ⟨arG, aoj, aok⟩ := bd h
 replace h := aoj
 refine .cut (fun σ η => ∃ sY, ∃ Rj : Nat, sY = arG ∧ σ = [(0, .aL 0 g1000 0 0), (5, .aL 2 0 0 0), (10, sl 4 ae.cells a1.ah), (11, .int .i64 (a1.ah.length : Int)), (12, .int .i64 gG)] ∧ η = [.row g1000 2 1 51 (fun _ => [aM Rj 0 g1000, .own 1 Rj 0 sY.length]), .row Rj 1 sY.length 5 (row cB sY), .row 0 4 1 29 (fun _ => ly.lit)]) ?_ ?_
 refine .d (sD h (fun aol h => ?_) (fun aol h => ?_))
 refine ⟨row cS ([[44, 32]] : List aq), aD cS ([[44, 32]] : List aq) rfl (aB rfl), (bk h fun uX JG h => (cp (aw (g1000 := g1000) (g1001 := El) (g1002 := 0) JG) [0, 1, 3] ⟨cz, ov, ov, ⟨⟩⟩ ?_))⟩
 rintro _ _ ⟨Rk, arH, rfl, rfl⟩
 exact ⟨.aV [], [.row g1000 2 1 51 (fun _ => [aM Rk 0 g1000, .own 1 Rk 0 uX.af.ao.length]), .row Rk 1 uX.af.ao.length 5 (row cB uX.af.ao), .row 0 4 1 29 (fun _ => ly.lit), .row arH 1 ([[44, 32]] : List aq).length 9 (row cS ([[44, 32]] : List aq))], rfl, avi, (ct ⟨_, Rk, si h, rfl, rfl⟩ (tk [0, 1, 2] ⟨.p, .p, .l, .i, .i, ⟨⟩⟩ ⟨(ob rfl ⟨.aM, .o, ⟨⟩⟩), od, (bZ rfl), ⟨⟩⟩))⟩
 exact ct ⟨_, El, si h, rfl, rfl⟩ (tk [0, 1, 2] ⟨.p, .p, .l, .i, .i, ⟨⟩⟩ ⟨(ob rfl ⟨.aM, .o, ⟨⟩⟩), od, (bZ rfl), ⟨⟩⟩)
 rintro _ _ ⟨sY, Rj, rfl, rfl, rfl⟩
 replace h := aok
 refine .d ⟨rfl, ⟨rfl, _, rfl, (sE h (fun aom h => ?_) (fun aom h => ?_))⟩⟩
 exact ⟨rfl, _, rfl, (bk h fun AA aon h => (cQ (aoh _ _ _ _ _ _ aon _ _) [0, 1] ⟨cz, ov, ⟨⟩⟩ (fun H7 => .aV []) (fun H7 => [.row g1000 2 1 51 (fun _ => [aM H7 0 g1000, .own 1 H7 0 AA.af.ao.length]), .row H7 1 AA.af.ao.length 5 (row cB AA.af.ao), .row 0 4 1 29 (fun _ => ly.lit)]) fun H7 => (lg (Wr _ _ _ _ h H7 rfl rfl) (tk [0, 1] ⟨.p, .l, .i, .i, ⟨⟩⟩ ⟨(ob rfl ⟨.aM, .o, ⟨⟩⟩), od, ⟨⟩⟩))))⟩
 exact ⟨rfl, ⟨rfl, _, rfl, (bk h fun Ed Ws h => ⟨aA Ws, _, (ax Ws).trans (ae.au Ed), (bk h fun AB aoo h => (cQ (aog _ _ _ _ aoo _ _) [0, 1] ⟨cz, ov, ⟨⟩⟩ (fun H8 => .aV []) (fun H8 => [.row g1000 2 1 51 (fun _ => [aM H8 0 g1000, .own 1 H8 0 AB.af.ao.length]), .row H8 1 AB.af.ao.length 5 (row cB AB.af.ao), .row 0 4 1 29 (fun _ => ly.lit)]) fun H8 => (lg (Wr _ _ _ _ h H8 rfl rfl) (tk [0, 1] ⟨.p, .l, .i, .i, ⟨⟩⟩ ⟨(ob rfl ⟨.aM, .o, ⟨⟩⟩), od, ⟨⟩⟩))))⟩)⟩⟩
 exact ct ⟨_, El, si h, rfl, rfl⟩ (tk [0, 1] ⟨.p, ⟨⟩⟩ ⟨(ob rfl ⟨.aM, .o, ⟨⟩⟩), od, ⟨⟩⟩)
 rintro _ _ ⟨D4, NI, rfl, rfl, rfl⟩
 replace h := aoc
 refine ⟨row cS ([[93]] : List aq), aD cS ([[93]] : List aq) rfl (aB rfl), (bk h fun BW K5 h => (cp (aw (g1000 := g1000) (g1001 := NI) (g1002 := 0) K5) [0, 1, 2] ⟨cz, ov, ov, ⟨⟩⟩ ?_))⟩
 rintro _ _ ⟨Rl, arI, rfl, rfl⟩
 refine ⟨.aV [], [.row g1000 2 1 51 (fun _ => [aM Rl 0 g1000, .own 1 Rl 0 BW.af.ao.length]), .row Rl 1 BW.af.ao.length 5 (row cB BW.af.ao), .row arI 1 ([[93]] : List aq).length 9 (row cS ([[93]] : List aq))], rfl, avi, ?_⟩
 obtain rfl := si h
 exact en [0, 1] ⟨Rl, rfl, rfl⟩ (.bu ⟨⟩) ⟨(ob rfl ⟨.aM, .o, ⟨⟩⟩), od, ⟨⟩⟩
 intro F0 F1 F2 lQ lR hF2 a1 iA gG o h
 exact .mk F0 lQ F1 lR F2 hF2 a1 iA gG o h
theorem ue {a0 : av} {a1 : ae} {r : av} {g1000 : Nat} {g1001 : Nat} (h : cN a0 a1 = some r) : ACall Tryz.prog 49 [.aL 0 g1000 0 0, .agg a1.lit] [.row g1000 2 1 51 (fun _ => [aM g1001 0 g1000, .own 1 g1001 0 a0.af.ao.length]), .row g1001 1 a0.af.ao.length 5 (row cB a0.af.ao)] (fun res h => ∃ G1 : Nat, res = .aV [] ∧ h = [.row g1000 2 1 51 (fun _ => [aM G1 0 g1000, .own 1 G1 0 r.af.ao.length]), .row G1 1 r.af.ao.length 5 (row cB r.af.ao)]) := rv.2.2.2.2.2.1 a0 a1 r h g1000 g1001
def cV (a0 : ae) (l14 : List UInt8) (y15 : Int) : Option ((List UInt8)) :=
 (if y15 < (a0.ah.length : Int) then
 idx a0.ah y15 >>= fun CG =>
 cN (av.mk (aE.mk () l14)) CG >>= fun v21 =>
 ak v21 ([[32]] : List aq) >>= fun v24 =>
 cV a0 v24.af.ao (aS (y15 + 1))
 else
 some l14)
partial_fixpoint
def iu (a0 : ae) : Option (aq) :=
 kq a0 >>= fun v1 =>
 (if v1 = true then
 ak (av.mk (aE.mk () ([] : List UInt8))) ([[60, 63, 32]] : List aq) >>= fun v4 =>
 (
 cV a0 v4.af.ao 0
 : Option ((List UInt8))) >>= fun l9 =>
 eO (aE.mk () l9) >>= fun (v30, v31) =>
 some v30
 else
 some [])
theorem tO {a0 : ae} {r : aq} (h : iu a0 = some r) : ACall Tryz.prog 18 [.agg a0.lit] [] (fun res h => res = .str r ∧ h = []) := by
 refine gq Tryz.func18 ?_
 unfold iu at h
 refine .d (.d (.d ⟨rfl, _, rfl, (bk h fun v1 mq h => (aR (ye mq) (jV h (fun oV h => ?_) (fun oV h => ?_))))⟩))
 exact .d (eS h)
 refine .d ⟨rfl, _, fun _ => [.dA, .bm], rfl, bI rfl, (.d ⟨row cS ([[60, 63, 32]] : List aq), aD cS ([[60, 63, 32]] : List aq) rfl (aB rfl), (pcG 1 (h2 := [.row 0 4 1 29 (fun _ => a0.lit), .row 0 2 1 51 (fun _ => [aM 0 1 0, .own 3 0 0 ([] : List UInt8).length]), .row 0 1 ([[60, 63, 32]] : List aq).length 9 (row cS ([[60, 63, 32]] : List aq)), .row 0 1 ([] : List UInt8).length 5 (row cB ([] : List UInt8))]) (bk h fun v4 vW h => (cp (aw (g1000 := 0) (g1001 := 0) (g1002 := 0) vW) [1, 3, 2] ⟨cz, ov, ov, ⟨⟩⟩ ?_)))⟩)⟩
 rintro _ _ ⟨g6, g7, rfl, rfl⟩
 refine ⟨.aV [], [.row 0 4 1 29 (fun _ => a0.lit), .row 0 2 1 51 (fun _ => [aM g6 1 0, .own 3 g6 0 v4.af.ao.length]), .row g7 1 ([[60, 63, 32]] : List aq).length 9 (row cS ([[60, 63, 32]] : List aq)), .row g6 1 v4.af.ao.length 5 (row cB v4.af.ao)], rfl, avi, ?_⟩
 obtain ⟨Xp, I8, I9⟩ := bd h
 replace h := I8
 refine .cut (fun σ η => ∃ l9, ∃ g8 : Nat, l9 = Xp ∧ σ = [(3, .aL 0 0 0 0)] ∧ η = [.row 0 2 1 51 (fun _ => [aM g8 0 0, .own 1 g8 0 l9.length]), .row g8 1 l9.length 5 (row cB l9)]) ?_ ?_
 refine .d ⟨rfl, ⟨rfl, _, rfl, ?_⟩⟩
 refine le (cV.partial_correctness a0 (motive := fun l14 y15 o28 => ∀ g13 : Nat, Xp = o28 → aG _ _ [(3, .aL 0 0 0 0), (13, sl 4 ae.cells a0.ah), (14, .int .i64 (a0.ah.length : Int)), (15, .int .i64 y15)] [.row 0 2 1 51 (fun _ => [aM g13 0 0, .own 1 g13 0 l14.length]), .row g13 1 l14.length 5 (row cB l14)]) ?_ v4.af.ao 0 Xp h g6 rfl) (tk [1, 3] ⟨.p, .l, .i, .i, ⟨⟩⟩ ⟨(nb rfl ⟨.aM, .o, ⟨⟩⟩), nw, ⟨⟩⟩)
 intro F17 arJ l14 y15 o28 h g13 arK
 subst arK
 refine aG.round (.d (.d (sD h (fun sf h => ?_) (fun sf h => ?_))))
 refine .d (.d (bk h fun CG s9 h => ⟨aA s9, _, (ax s9).trans (ae.au CG), ⟨rfl, _, fun _ => [.int .i64 CG.ai, .int .i64 CG.aC, .str CG.aj, sl 4 ae.cells CG.ah], rfl, bI rfl, (.d ⟨rfl, _, rfl, (bk h fun v21 Nq h => (cQ (ue (g1000 := 0) (g1001 := g13) Nq) [0, 1] ⟨cz, ov, ⟨⟩⟩ (fun g23 => .aV []) (fun g23 => [.row 0 2 1 51 (fun _ => [aM g23 0 0, .own 1 g23 0 v21.af.ao.length]), .row g23 1 v21.af.ao.length 5 (row cB v21.af.ao), .row 0 4 1 29 (fun _ => CG.lit)]) fun g23 => ⟨row cS ([[32]] : List aq), aD cS ([[32]] : List aq) rfl (aB rfl), (bk h fun v24 XL h => (cp (aw (g1000 := 0) (g1001 := g23) (g1002 := 0) XL) [0, 1, 3] ⟨cz, ov, ov, ⟨⟩⟩ ?_))⟩))⟩)⟩⟩))
 rintro _ _ ⟨g26, g27, rfl, rfl⟩
 exact ⟨.aV [], [.row 0 2 1 51 (fun _ => [aM g26 0 0, .own 1 g26 0 v24.af.ao.length]), .row g26 1 v24.af.ao.length 5 (row cB v24.af.ao), .row 0 4 1 29 (fun _ => CG.lit), .row g27 1 ([[32]] : List aq).length 9 (row cS ([[32]] : List aq))], rfl, avi, (lg (arJ _ _ _ h g26 rfl) (tk [0, 1] ⟨.p, .l, .i, .i, ⟨⟩⟩ ⟨(nb rfl ⟨.aM, .o, ⟨⟩⟩), nw, ⟨⟩⟩))⟩
 exact ct ⟨_, g13, si h, rfl, rfl⟩ (tk [0, 1] ⟨.p, ⟨⟩⟩ ⟨(nb rfl ⟨.aM, .o, ⟨⟩⟩), nw, ⟨⟩⟩)
 rintro _ _ ⟨l9, g8, rfl, rfl, rfl⟩
 replace h := I9
 refine .d ⟨rfl, ?_⟩
 obtain ⟨⟨v30, v31⟩, abm, h⟩ := bd h
 refine cp (nA (g1000 := 0) (g1001 := g8) abm) [0, 1] ⟨cz, ov, ⟨⟩⟩ ?_
 rintro _ _ ⟨rfl, rfl⟩
 exact ⟨.str v30, [.dead, .dead], rfl, avi, (eS h)⟩
end Go.Am
