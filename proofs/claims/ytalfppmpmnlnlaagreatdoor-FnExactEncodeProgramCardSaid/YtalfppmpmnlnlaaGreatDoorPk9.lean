/- Texts of the proof, joined and shortened. -/
import Derived.Test.YtalfppmpmnlnlaaGreatDoorPk8
import Derived.Lib.AtoiTie
set_option linter.unusedVariables false
set_option linter.unusedSimpArgs false
set_option maxRecDepth 100000
namespace Go.Am
open Go Go.RowKit Go.Proofs
def qn (a0 : Bool) : Option (Int) :=
 (if a0 = true then
 some 1
 else
 some 0)
theorem EI {a0 : Bool} {r : Int} (h : qn a0 = some r) : ACall Tryz.prog 61 [.bool a0] [] (fun res h => res = .int .i64 r ∧ h = []) := by
 refine cP Tryz.func61 ?_
 unfold qn at h
 refine .d (.d (.d (sV h (fun de h => ?_) (fun de h => ?_))))
 exact afK
 exact afK
def dQ (qf : Int) (xr : List UInt8) : Option (Int × (List UInt8)) :=
 (if qf ≥ 128 then
 kV 1 xr ([UInt8.ofNat (IntKind.u8.wrap ((IntKind.u8.wrap (qf.tmod 128)) + 128)).toNat] : List UInt8) >>= fun QA =>
 dQ (ah (qf.tdiv 128)) QA
 else
 some (qf, xr))
partial_fixpoint
def iS (a0 : List UInt8) (a1 : Int) : Option ((List UInt8)) :=
 kV 1 ([] : List UInt8) a0 >>= fun l1 =>
 (if a1 < 0 then
 some l1
 else
 (if a1 > 1000000000000 then
 some l1
 else
 (
 dQ a1 l1
 : Option (Int × (List UInt8))) >>= fun (y5, l6) =>
 kV 1 l6 ([UInt8.ofNat (IntKind.u8.wrap (y5)).toNat] : List UInt8) >>= fun FE =>
 some FE))
theorem pC {a0 : List UInt8} {a1 : Int} {r : (List UInt8)} (h : iS a0 a1 = some r) : ACall Tryz.prog 59 [sl 1 cB a0, .int .i64 a1] [] (fun res h => res = .own 0 0 0 r.length ∧ h = [.row 0 1 r.length 5 (row cB r)]) := by
 refine cP Tryz.func59 ?_
 unfold iS at h
 refine .d (.d ⟨row cB ([] : List UInt8), dN cB ([] : List UInt8) rfl (eg rfl), (bk h fun l1 sZ h => ⟨rfl, gd sZ, l1.length, row cB l1, dP sZ, eo sZ bg EJ, (.d (.d (sD h (fun lJ h => ?_) (fun lJ h => ?_))))⟩)⟩)
 refine .t (.t (.t (.d ?_)))
 exact afA
 refine .f (.f (sD h (fun oL h => ?_) (fun oL h => ?_)))
 refine .d ?_
 exact afA
 obtain ⟨o7, Mp, H8⟩ := bd h
 replace h := Mp
 refine .cut (fun σ η => ∃ y5, ∃ l6, (y5, l6) = o7 ∧ σ = [(1, .int .i64 y5), (5, .own 0 0 0 l6.length)] ∧ η = [.row 0 1 l6.length 5 (row cB l6)]) ?_ ?_
 refine le (dQ.partial_correctness  (motive := fun qf xr Sg => o7 = Sg → az _ _ [(1, .int .i64 qf), (5, .own 0 0 0 xr.length)] [.row 0 1 xr.length 5 (row cB xr)]) ?_ a1 l1 o7 h rfl) (tk [0] ⟨.i, .o, ⟨⟩⟩ ⟨nw, ⟨⟩⟩)
 intro F13 H9 qf xr Sg h Nb
 subst Nb
 refine az.round (.d (.d (sD h (fun kU h => ?_) (fun kU h => ?_))))
 exact .d ⟨by decide, ⟨row cB ([UInt8.ofNat (IntKind.u8.wrap ((IntKind.u8.wrap (qf.tmod 128)) + 128)).toNat] : List UInt8), dN cB ([UInt8.ofNat (IntKind.u8.wrap ((IntKind.u8.wrap (qf.tmod 128)) + 128)).toNat] : List UInt8) rfl (oY (qj _) ⟨.same _, trivial⟩ trivial), (bk h fun QA rK h => ⟨rfl, rfl, rT (l := ([UInt8.ofNat (IntKind.u8.wrap ((IntKind.u8.wrap (qf.tmod 128)) + 128)).toNat] : List UInt8)) bg, gd rK, QA.length, row cB QA, dP rK, eo rK bg (oF bg), ⟨by decide, (lg (H9 _ _ _ h rfl) (tk [0] ⟨.i, .o, ⟨⟩⟩ ⟨nw, ⟨⟩⟩))⟩⟩)⟩⟩
 exact ct ⟨_, _, si h, rfl, rfl⟩ (tk [0] ⟨.i, .o, ⟨⟩⟩ ⟨nw, ⟨⟩⟩)
 rintro _ _ ⟨y5, l6, rfl, rfl, rfl⟩
 replace h := H8
 refine .d ⟨row cB ([UInt8.ofNat (IntKind.u8.wrap (y5)).toNat] : List UInt8), dN cB ([UInt8.ofNat (IntKind.u8.wrap (y5)).toNat] : List UInt8) rfl (oY (qj _) ⟨.same _, trivial⟩ trivial), (bk h fun FE uK h => ⟨rfl, rfl, rT (l := ([UInt8.ofNat (IntKind.u8.wrap (y5)).toNat] : List UInt8)) bg, gd uK, FE.length, row cB FE, dP uK, eo uK bg (oF bg), ?_⟩)⟩
 exact afA
def mA (a0 : List UInt8) (a1 : ba) : Option ((List UInt8)) :=
 iS a0 (a1.length : Int) >>= fun v1 =>
 kV 1 v1 a1 >>= fun l3 =>
 some l3
theorem zt {a0 : List UInt8} {a1 : ba} {r : (List UInt8)} (h : mA a0 a1 = some r) : ACall Tryz.prog 60 [sl 1 cB a0, .str a1] [] (fun res h => res = .own 0 0 0 r.length ∧ h = [.row 0 1 r.length 5 (row cB r)]) := by
 refine cP Tryz.func60 ?_
 unfold mA at h
 refine .d (.d (bk h fun v1 jT h => (P6 (pC jT) (.own 0 0 0 v1.length) [.row 0 1 v1.length 5 (row cB v1)] (bk h fun l3 WM h => ⟨rfl, gd WM, l3.length, row cB l3, dP WM, eo WM bg rS, ?_⟩))))
 exact afA
def br (a0 : aK) (a1 : Int) : Option (aK) :=
 iS a0.fB a1 >>= fun v1 =>
 some (aK.mk v1)
theorem bM {a0 : aK} {a1 : Int} {r : aK} {g1000 : Nat} {g1001 : Nat} (h : br a0 a1 = some r) : ACall Tryz.prog 25 [.aN 0 g1000 0 0, .int .i64 a1] [.row g1000 1 1 51 (fun _ => [.own 1 g1001 0 a0.fB.length]), .row g1001 1 a0.fB.length 5 (row cB a0.fB)] (fun res h => res = .dG [] ∧ h = [.row g1000 1 1 51 (fun _ => [.own 2 0 0 r.fB.length]), .dead, .row 0 1 r.fB.length 5 (row cB r.fB)]) := by
 refine cP Tryz.func25 ?_
 unfold br at h
 refine ⟨rfl, ⟨rfl, ⟨rfl, _, rfl, (bk h fun v1 jT h => (NW (pC jT) ⟨.r, .i, ⟨⟩⟩ (.own 2 0 0 v1.length) [.row g1000 1 1 51 (fun _ => [.own 1 g1001 0 a0.fB.length]), .row g1001 1 a0.fB.length 5 (row cB a0.fB), .row 0 1 v1.length 5 (row cB v1)] (pD (re (fun _ => rfl)) rf) ⟨rfl, ⟨rfl, ⟨rfl, _, fun _ => [.own 2 0 0 v1.length], rfl, aM rfl, ?_⟩⟩⟩))⟩⟩⟩
 exact afE
def bh (a0 : aK) (a1 : ba) : Option (aK) :=
 mA a0.fB a1 >>= fun v1 =>
 some (aK.mk v1)
theorem bA {a0 : aK} {a1 : ba} {r : aK} {g1000 : Nat} {g1001 : Nat} (h : bh a0 a1 = some r) : ACall Tryz.prog 26 [.aN 0 g1000 0 0, .str a1] [.row g1000 1 1 51 (fun _ => [.own 1 g1001 0 a0.fB.length]), .row g1001 1 a0.fB.length 5 (row cB a0.fB)] (fun res h => res = .dG [] ∧ h = [.row g1000 1 1 51 (fun _ => [.own 2 0 0 r.fB.length]), .dead, .row 0 1 r.fB.length 5 (row cB r.fB)]) := by
 refine cP Tryz.func26 ?_
 unfold bh at h
 refine ⟨rfl, ⟨rfl, ⟨rfl, _, rfl, (bk h fun v1 jT h => (NW (zt jT) ⟨.r, .s, ⟨⟩⟩ (.own 2 0 0 v1.length) [.row g1000 1 1 51 (fun _ => [.own 1 g1001 0 a0.fB.length]), .row g1001 1 a0.fB.length 5 (row cB a0.fB), .row 0 1 v1.length 5 (row cB v1)] (pD (re (fun _ => rfl)) rf) ⟨rfl, ⟨rfl, ⟨rfl, _, fun _ => [.own 2 0 0 v1.length], rfl, aM rfl, ?_⟩⟩⟩))⟩⟩⟩
 exact afE
def cn (a0 : aK) (a1 : Bool) : Option (aK) :=
 qn a1 >>= fun v1 =>
 br a0 v1 >>= fun v3 =>
 some v3
theorem fu {a0 : aK} {a1 : Bool} {r : aK} {g1000 : Nat} {g1001 : Nat} (h : cn a0 a1 = some r) : ACall Tryz.prog 27 [.aN 0 g1000 0 0, .bool a1] [.row g1000 1 1 51 (fun _ => [.own 1 g1001 0 a0.fB.length]), .row g1001 1 a0.fB.length 5 (row cB a0.fB)] (fun res h => res = .dG [] ∧ h = [.row g1000 1 1 51 (fun _ => [.own 2 0 0 r.fB.length]), .dead, .row 0 1 r.fB.length 5 (row cB r.fB)]) := by
 refine cP Tryz.func27 ?_
 unfold cn at h
 refine bk h fun v1 jT h => (bO (EI jT) (bk h fun v3 CR h => (uZ (bM (g1000 := g1000) (g1001 := g1001) CR) [0, 1] ⟨rfl, ov, ⟨⟩⟩ (.dG []) [.row g1000 1 1 51 (fun _ => [.own 2 0 0 v3.fB.length]), .dead, .row 0 1 v3.fB.length 5 (row cB v3.fB)] ?_)))
 exact afE
def cw (a1 : aw) (xr : List UInt8) (bz : Int) : Option ((List UInt8)) :=
 (if bz < (a1.aA.length : Int) then
 idx a1.aA bz >>= fun ue =>
 bh (aK.mk xr) ue.ao >>= fun oN =>
 bh oN ue.bn >>= fun v20 =>
 cn v20 ue.bc >>= fun vV =>
 jO ue.aH >>= fun (v24, kY) =>
 bh vV v24 >>= fun uL =>
 cw a1 uL.fB (ah (bz + 1))
 else
 some xr)
partial_fixpoint
def cx (a1 : aw) (Mb : List UInt8) (WV : Int) : Option (aK) :=
 (if WV < (a1.av.length : Int) then
 idx a1.av WV >>= fun GL =>
 bh (aK.mk Mb) GL.ao >>= fun v40 =>
 bh v40 GL.bn >>= fun Y0 =>
 bh Y0 GL.fh >>= fun UX =>
 cn UX GL.bc >>= fun v46 =>
 cn v46 GL.fZ >>= fun B3 =>
 cx a1 B3.fB (ah (WV + 1))
 else
 some (aK.mk Mb))
partial_fixpoint
def fv (a0 : aK) (a1 : aw) : Option (aK) :=
 bh a0 a1.ao >>= fun v1 =>
 bh v1 a1.bD >>= fun v3 =>
 br v3 (a1.aA.length : Int) >>= fun v5 =>
 (
 cw a1 v5.fB 0
 : Option ((List UInt8))) >>= fun l7 =>
 br (aK.mk l7) (a1.av.length : Int) >>= fun v31 =>
 cx a1 v31.fB 0
theorem sQ {a0 : aK} {a1 : aw} {r : aK} {g1000 : Nat} {g1001 : Nat} (h : fv a0 a1 = some r) : ACall Tryz.prog 28 [.aN 0 g1000 0 0, .agg a1.lit] [.row g1000 1 1 51 (fun _ => [.own 1 g1001 0 a0.fB.length]), .row g1001 1 a0.fB.length 5 (row cB a0.fB)] (fun res h => res = .dG [] ∧ h = [.row g1000 1 1 51 (fun _ => [.own 2 0 0 r.fB.length]), .dead, .row 0 1 r.fB.length 5 (row cB r.fB)]) := by
 refine cP Tryz.func28 ?_
 unfold fv at h
 refine .d (.d ⟨rfl, ⟨rfl, _, rfl, (bk h fun v1 jT h => (uZ (bA (g1000 := g1000) (g1001 := g1001) jT) [0, 1] ⟨rfl, ov, ⟨⟩⟩ (.dG []) [.row g1000 1 1 51 (fun _ => [.own 3 0 0 v1.fB.length]), .dead, .row 0 4 1 68 (fun _ => a1.lit), .row 0 1 v1.fB.length 5 (row cB v1.fB)] (.d ⟨rfl, ⟨rfl, _, rfl, (bk h fun v3 CR h => (uZ (bA (g1000 := g1000) (g1001 := 0) CR) [0, 3] ⟨rfl, ov, ⟨⟩⟩ (.dG []) [.row g1000 1 1 51 (fun _ => [.own 4 0 0 v3.fB.length]), .dead, .row 0 4 1 68 (fun _ => a1.lit), .dead, .row 0 1 v3.fB.length 5 (row cB v3.fB)] (.d ⟨rfl, ⟨rfl, _, rfl, (bk h fun v5 DJ h => ?_)⟩⟩)))⟩⟩)))⟩⟩)
 refine uZ (bM (g1000 := g1000) (g1001 := 0) DJ) [0, 4] ⟨rfl, ov, ⟨⟩⟩ (.dG []) [.row g1000 1 1 51 (fun _ => [.own 5 0 0 v5.fB.length]), .dead, .row 0 4 1 68 (fun _ => a1.lit), .dead, .dead, .row 0 1 v5.fB.length 5 (row cB v5.fB)] ?_
 obtain ⟨o8, ho9, aci⟩ := bd h
 replace h := ho9
 refine .cut (fun σ η => ∃ l7, l7 = o8 ∧ σ = [(0, .aN 0 g1000 0 0), (3, .aN 3 0 0 0)] ∧ η = [.row g1000 1 1 51 (fun _ => [.own 2 0 0 l7.length]), .dead, .row 0 1 l7.length 5 (row cB l7), .row 0 4 1 68 (fun _ => a1.lit)]) ?_ ?_
 refine .d ⟨rfl, ⟨rfl, _, rfl, ?_⟩⟩
 refine le (cw.partial_correctness a1 (motive := fun xr bz YH => o8 = YH → az _ _ [(0, .aN 0 g1000 0 0), (3, .aN 3 0 0 0), (24, sl 8 aB.cells a1.aA), (25, .int .i64 (a1.aA.length : Int)), (26, .int .i64 bz)] [.row g1000 1 1 51 (fun _ => [.own 2 0 0 xr.length]), .dead, .row 0 1 xr.length 5 (row cB xr), .row 0 4 1 68 (fun _ => a1.lit)]) ?_ v5.fB 0 o8 h rfl) (tk [0, 1, 5, 2] ⟨.p, .p, .l, .i, .i, ⟨⟩⟩ ⟨(ob rfl ⟨.o, ⟨⟩⟩), dd, nw, (bf rfl), ⟨⟩⟩)
 intro RQ qE xr bz YH h UJ
 subst UJ
 refine az.round (.d (.d (sD h (fun dI h => ?_) (fun dI h => ?_))))
 refine .d (.d (bk h fun ue qF h => ⟨aI qF, _, (aF qF).trans (aB.au ue), ⟨rfl, _, fun _ => [.str ue.ao, .str ue.bn, .bool ue.bc, .int .i64 ue.aH.aJ, .int .i64 ue.aH.bb, .str ue.aH.bm, .int .i64 ue.aH.bs, sl 8 ae.cells ue.aH.ai], rfl, aM rfl, (.d ⟨rfl, ⟨rfl, _, rfl, (bk h fun oN D5 h => (uZ (bA (g1000 := g1000) (g1001 := 0) D5) [0, 2] ⟨rfl, ov, ⟨⟩⟩ (.dG []) [.row g1000 1 1 51 (fun _ => [.own 5 0 0 oN.fB.length]), .dead, .dead, .row 0 4 1 68 (fun _ => a1.lit), .row 0 8 1 99 (fun _ => ue.lit), .row 0 1 oN.fB.length 5 (row cB oN.fB)] (.d ⟨rfl, ⟨rfl, _, rfl, (bk h fun v20 xw h => (uZ (bA (g1000 := g1000) (g1001 := 0) xw) [0, 5] ⟨rfl, ov, ⟨⟩⟩ (.dG []) [.row g1000 1 1 51 (fun _ => [.own 6 0 0 v20.fB.length]), .dead, .dead, .row 0 4 1 68 (fun _ => a1.lit), .row 0 8 1 99 (fun _ => ue.lit), .dead, .row 0 1 v20.fB.length 5 (row cB v20.fB)] ?_))⟩⟩)))⟩⟩)⟩⟩))
 refine .d ⟨rfl, ⟨rfl, _, rfl, (bk h fun vV MD h => (uZ (fu (g1000 := g1000) (g1001 := 0) MD) [0, 6] ⟨rfl, ov, ⟨⟩⟩ (.dG []) [.row g1000 1 1 51 (fun _ => [.own 7 0 0 vV.fB.length]), .dead, .dead, .row 0 4 1 68 (fun _ => a1.lit), .row 0 8 1 99 (fun _ => ue.lit), .dead, .dead, .row 0 1 vV.fB.length 5 (row cB vV.fB)] (.d ⟨rfl, ⟨rfl, _, rfl, ?_⟩⟩)))⟩⟩
 obtain ⟨⟨v24, kY⟩, D7, h⟩ := bd h
 exact bO (AL D7) (bk h fun uL NR h => (uZ (bA (g1000 := g1000) (g1001 := 0) NR) [0, 7] ⟨rfl, ov, ⟨⟩⟩ (.dG []) [.row g1000 1 1 51 (fun _ => [.own 8 0 0 uL.fB.length]), .dead, .dead, .row 0 4 1 68 (fun _ => a1.lit), .row 0 8 1 99 (fun _ => ue.lit), .dead, .dead, .dead, .row 0 1 uL.fB.length 5 (row cB uL.fB)] (lg (qE _ _ _ h rfl) (tk [0, 1, 8, 3] ⟨.p, .p, .l, .i, .i, ⟨⟩⟩ ⟨(ob rfl ⟨.o, ⟨⟩⟩), dd, nw, (bf rfl), ⟨⟩⟩))))
 exact ct ⟨_, si h, rfl, rfl⟩ (tk [0, 1, 2, 3] ⟨.p, .p, ⟨⟩⟩ ⟨(ob rfl ⟨.o, ⟨⟩⟩), dd, nw, (bf rfl), ⟨⟩⟩)
 rintro _ _ ⟨l7, rfl, rfl, rfl⟩
 replace h := aci
 refine .d ⟨rfl, ⟨rfl, _, rfl, (bk h fun v31 DN h => (uZ (bM (g1000 := g1000) (g1001 := 0) DN) [0, 2] ⟨rfl, ov, ⟨⟩⟩ (.dG []) [.row g1000 1 1 51 (fun _ => [.own 4 0 0 v31.fB.length]), .dead, .dead, .row 0 4 1 68 (fun _ => a1.lit), .row 0 1 v31.fB.length 5 (row cB v31.fB)] (.d ⟨rfl, ⟨rfl, _, rfl, ?_⟩⟩)))⟩⟩
 refine le (cx.partial_correctness a1 (motive := fun Mb WV Qe => r = Qe → az _ _ [(0, .aN 0 g1000 0 0), (58, sl 5 ax.cells a1.av), (59, .int .i64 (a1.av.length : Int)), (60, .int .i64 WV)] [.row g1000 1 1 51 (fun _ => [.own 2 0 0 Mb.length]), .dead, .row 0 1 Mb.length 5 (row cB Mb)]) ?_ v31.fB 0 r h rfl) (tk [0, 1, 4] ⟨.p, .l, .i, .i, ⟨⟩⟩ ⟨(ob rfl ⟨.o, ⟨⟩⟩), dd, nw, ⟨⟩⟩)
 intro P9 acj Mb WV Qe h TA
 subst TA
 refine az.round (.d (.d (sD h (fun Ak h => ?_) (fun Ak h => ?_))))
 refine .d (.d (bk h fun GL Y1 h => ⟨aI Y1, _, (aF Y1).trans (ax.au GL), ⟨rfl, _, fun _ => [.str GL.ao, .str GL.bn, .str GL.fh, .bool GL.bc, .bool GL.fZ], rfl, aM rfl, (.d ⟨rfl, ⟨rfl, _, rfl, (bk h fun v40 UY h => (uZ (bA (g1000 := g1000) (g1001 := 0) UY) [0, 2] ⟨rfl, ov, ⟨⟩⟩ (.dG []) [.row g1000 1 1 51 (fun _ => [.own 4 0 0 v40.fB.length]), .dead, .dead, .row 0 5 1 106 (fun _ => GL.lit), .row 0 1 v40.fB.length 5 (row cB v40.fB)] (.d ⟨rfl, ⟨rfl, _, rfl, (bk h fun Y0 ack h => (uZ (bA (g1000 := g1000) (g1001 := 0) ack) [0, 4] ⟨rfl, ov, ⟨⟩⟩ (.dG []) [.row g1000 1 1 51 (fun _ => [.own 5 0 0 Y0.fB.length]), .dead, .dead, .row 0 5 1 106 (fun _ => GL.lit), .dead, .row 0 1 Y0.fB.length 5 (row cB Y0.fB)] ?_))⟩⟩)))⟩⟩)⟩⟩))
 exact .d ⟨rfl, ⟨rfl, _, rfl, (bk h fun UX UZ h => (uZ (bA (g1000 := g1000) (g1001 := 0) UZ) [0, 5] ⟨rfl, ov, ⟨⟩⟩ (.dG []) [.row g1000 1 1 51 (fun _ => [.own 6 0 0 UX.fB.length]), .dead, .dead, .row 0 5 1 106 (fun _ => GL.lit), .dead, .dead, .row 0 1 UX.fB.length 5 (row cB UX.fB)] (.d ⟨rfl, ⟨rfl, _, rfl, (bk h fun v46 U0 h => (uZ (fu (g1000 := g1000) (g1001 := 0) U0) [0, 6] ⟨rfl, ov, ⟨⟩⟩ (.dG []) [.row g1000 1 1 51 (fun _ => [.own 7 0 0 v46.fB.length]), .dead, .dead, .row 0 5 1 106 (fun _ => GL.lit), .dead, .dead, .dead, .row 0 1 v46.fB.length 5 (row cB v46.fB)] ⟨rfl, ⟨rfl, _, rfl, (bk h fun B3 IS h => (uZ (fu (g1000 := g1000) (g1001 := 0) IS) [0, 7] ⟨rfl, ov, ⟨⟩⟩ (.dG []) [.row g1000 1 1 51 (fun _ => [.own 8 0 0 B3.fB.length]), .dead, .dead, .row 0 5 1 106 (fun _ => GL.lit), .dead, .dead, .dead, .dead, .row 0 1 B3.fB.length 5 (row cB B3.fB)] (lg (acj _ _ _ h rfl) (tk [0, 1, 8] ⟨.p, .l, .i, .i, ⟨⟩⟩ ⟨(ob rfl ⟨.o, ⟨⟩⟩), dd, nw, ⟨⟩⟩))))⟩⟩))⟩⟩)))⟩⟩
 exact afE
def cJ (oD : List TParam) (AO : List UInt8) (nM : Int) : Option ((List UInt8)) :=
 (if nM < (oD.length : Int) then
 idx oD nM >>= fun yJ =>
 bh (aK.mk AO) yJ.ao >>= fun NL =>
 cn NL yJ.vh >>= fun Jc =>
 cJ oD Jc.fB (ah (nM + 1))
 else
 some AO)
partial_fixpoint
def cK (gX : aC) (sA : List UInt8) (xS : Int) : Option ((List UInt8)) :=
 (if xS < (([gX.ak, gX.aE] : List (List TParam)).length : Int) then
 (
 idx ([gX.ak, gX.aE] : List (List TParam)) xS >>= fun oD =>
 br (aK.mk sA) (oD.length : Int) >>= fun zJ =>
 cJ oD zJ.fB 0
 : Option ((List UInt8))) >>= fun vY =>
 cK gX vY (ah (xS + 1))
 else
 some sA)
partial_fixpoint
def cM (gX : aC) (U1 : List UInt8) (WW : Int) : Option ((List UInt8)) :=
 (if WW < (gX.ar.length : Int) then
 idx gX.ar WW >>= fun x69 =>
 bh (aK.mk U1) x69 >>= fun Y2 =>
 cM gX Y2.fB (ah (WW + 1))
 else
 some U1)
partial_fixpoint
def cN (gX : aC) (U2 : List UInt8) (WX : Int) : Option ((List UInt8)) :=
 (if WX < (gX.aq.length : Int) then
 idx gX.aq WX >>= fun GM =>
 br (aK.mk U2) GM.aW >>= fun QB =>
 br QB GM.fA >>= fun U3 =>
 br U3 GM.fB >>= fun Y3 =>
 bh Y3 GM.fS >>= fun PO =>
 bh PO GM.fT >>= fun Sp =>
 cN gX Sp.fB (ah (WX + 1))
 else
 some U2)
partial_fixpoint
def cg (a0 : aD) (Mc : List UInt8) (Km : Int) : Option ((List UInt8)) :=
 (if Km < (a0.aG.length : Int) then
 (
 idx a0.aG Km >>= fun gX =>
 bh (aK.mk Mc) gX.ao >>= fun v24 =>
 (
 cK gX v24.fB 0
 : Option ((List UInt8))) >>= fun FF =>
 br (aK.mk FF) (gX.ar.length : Int) >>= fun yG =>
 (
 cM gX yG.fB 0
 : Option ((List UInt8))) >>= fun U4 =>
 cn (aK.mk U4) gX.dk >>= fun v75 =>
 br v75 (gX.aq.length : Int) >>= fun GD =>
 cN gX GD.fB 0
 : Option ((List UInt8))) >>= fun U5 =>
 cg a0 U5 (ah (Km + 1))
 else
 some Mc)
partial_fixpoint
def dt (a0 : aD) (Jd : List UInt8) (Lp : Int) : Option ((List UInt8)) :=
 (if Lp < (a0.ay.length : Int) then
 idx a0.ay Lp >>= fun GN =>
 fv (aK.mk Jd) GN >>= fun NX =>
 dt a0 NX.fB (ah (Lp + 1))
 else
 some Jd)
partial_fixpoint
def dE (a0 : aD) : Option ((List UInt8) × Bool) :=
 jN a0 >>= fun v1 =>
 (if v1 = true then
 (
 some ()
 : Option (Unit)) >>= fun _ =>
 br (aK.mk ([] : List UInt8)) (a0.aG.length : Int) >>= fun v7 =>
 (
 cg a0 v7.fB 0
 : Option ((List UInt8))) >>= fun l9 =>
 br (aK.mk l9) (a0.ay.length : Int) >>= fun Lq =>
 (
 dt a0 Lq.fB 0
 : Option ((List UInt8))) >>= fun Je =>
 some (Je, true)
 else
 some ([], false))
theorem pE {a0 : aD} {r : (List UInt8) × Bool} (h : dE a0 = some r) : ACall Tryz.prog 8 [.agg a0.lit] [] (fun res h => res = .dG [.own 0 0 0 r.1.length, .bool r.2] ∧ h = [.row 0 1 r.1.length 5 (row cB r.1)]) := by
 refine cP Tryz.func8 ?_
 unfold dE at h
 refine .d (.d (.d ⟨rfl, _, rfl, (bk h fun v1 jT h => (bO (AJ jT) (j3 h (fun lJ h => ?_) (fun lJ h => ?_))))⟩))
 refine .d ?_
 obtain rfl := si h
 exact en [1] ⟨rfl, rfl⟩ (.eh ⟨.g, .b, ⟨⟩⟩) ⟨gh, ⟨⟩⟩
 obtain ⟨o4, KR, Ia⟩ := bd h
 replace h := KR
 refine .cut (fun σ η => () = o4 ∧ σ = [(1, .aN 0 0 0 0), (4, .aN 1 0 0 0)] ∧ η = [.row 0 2 1 33 (fun _ => a0.lit), .row 0 1 1 51 (fun _ => [.own 2 0 0 ([] : List UInt8).length]), .row 0 1 ([] : List UInt8).length 5 (row cB ([] : List UInt8))]) ?_ ?_
 exact ⟨rfl, _, fun _ => [.aO], rfl, aM rfl, (ct ⟨si h, rfl, rfl⟩ (tk [0, 1, 4] ⟨.p, .p, ⟨⟩⟩ ⟨(bf rfl), (nb rfl ⟨.g, ⟨⟩⟩), gh, ⟨⟩⟩))⟩
 rintro _ _ ⟨rfl, rfl, rfl⟩
 replace h := Ia
 refine .d ⟨rfl, ⟨rfl, _, rfl, (bk h fun v7 Ib h => (uZ (bM (g1000 := 0) (g1001 := 0) Ib) [1, 2] ⟨rfl, ov, ⟨⟩⟩ (.dG []) [.row 0 2 1 33 (fun _ => a0.lit), .row 0 1 1 51 (fun _ => [.own 3 0 0 v7.fB.length]), .dead, .row 0 1 v7.fB.length 5 (row cB v7.fB)] ?_))⟩⟩
 obtain ⟨QC, NY, GO⟩ := bd h
 replace h := NY
 refine .cut (fun σ η => ∃ l9, l9 = QC ∧ σ = [(1, .aN 0 0 0 0), (4, .aN 1 0 0 0)] ∧ η = [.row 0 2 1 33 (fun _ => a0.lit), .row 0 1 1 51 (fun _ => [.own 2 0 0 l9.length]), .row 0 1 l9.length 5 (row cB l9)]) ?_ ?_
 refine .d ⟨rfl, ⟨rfl, _, rfl, ?_⟩⟩
 refine le (cg.partial_correctness a0 (motive := fun Mc Km o98 => QC = o98 → az _ _ [(1, .aN 0 0 0 0), (4, .aN 1 0 0 0), (26, sl 6 aC.cells a0.aG), (27, .int .i64 (a0.aG.length : Int)), (28, .int .i64 Km)] [.row 0 2 1 33 (fun _ => a0.lit), .row 0 1 1 51 (fun _ => [.own 2 0 0 Mc.length]), .row 0 1 Mc.length 5 (row cB Mc)]) ?_ v7.fB 0 QC h rfl) (tk [0, 1, 3] ⟨.p, .p, .l, .i, .i, ⟨⟩⟩ ⟨(bf rfl), (nb rfl ⟨.o, ⟨⟩⟩), nw, ⟨⟩⟩)
 intro F16 acm Mc Km o98 h acn
 subst acn
 refine az.round (.d (.d (sD h (fun kR h => ?_) (fun kR h => ?_))))
 obtain ⟨RR, U6, U7⟩ := bd h
 replace h := U6
 refine .cut (fun σ η => ∃ U5, U5 = RR ∧ σ = [(1, .aN 0 0 0 0), (4, .aN 1 0 0 0), (26, sl 6 aC.cells a0.aG), (27, .int .i64 (a0.aG.length : Int)), (28, .int .i64 Km)] ∧ η = [.row 0 2 1 33 (fun _ => a0.lit), .row 0 1 1 51 (fun _ => [.own 2 0 0 U5.length]), .row 0 1 U5.length 5 (row cB U5)]) ?_ ?_
 refine .d (bk h fun gX Lr h => ⟨aI Lr, _, (aF Lr).trans (aC.au gX), ⟨rfl, _, fun _ => [.str gX.ao, sl 2 TParam.cells gX.ak, sl 2 TParam.cells gX.aE, sl 1 cS gX.ar, .bool gX.dk, sl 5 aR.cells gX.aq], rfl, aM rfl, (.d ⟨rfl, ⟨rfl, _, rfl, (bk h fun v24 Tw h => (uZ (bA (g1000 := 0) (g1001 := 0) Tw) [1, 2] ⟨rfl, ov, ⟨⟩⟩ (.dG []) [.row 0 2 1 33 (fun _ => a0.lit), .row 0 1 1 51 (fun _ => [.own 4 0 0 v24.fB.length]), .dead, .row 0 6 1 57 (fun _ => gX.lit), .row 0 1 v24.fB.length 5 (row cB v24.fB)] ?_))⟩⟩)⟩⟩)
 obtain ⟨HY, Ny, vt⟩ := bd h
 replace h := Ny
 refine .cut (fun σ η => ∃ FF, FF = HY ∧ σ = [(1, .aN 0 0 0 0), (4, .aN 1 0 0 0), (6, .aN 3 0 0 0), (26, sl 6 aC.cells a0.aG), (27, .int .i64 (a0.aG.length : Int)), (28, .int .i64 Km)] ∧ η = [.row 0 2 1 33 (fun _ => a0.lit), .row 0 1 1 51 (fun _ => [.own 2 0 0 FF.length]), .row 0 1 FF.length 5 (row cB FF), .row 0 6 1 57 (fun _ => gX.lit)]) ?_ ?_
 refine .d ⟨rfl, ⟨rfl, _, rfl, ⟨rfl, ⟨rfl, _, rfl, ⟨row (cL 2 TParam.cells) ([gX.ak, gX.aE] : List (List TParam)), dN (cL 2 TParam.cells) ([gX.ak, gX.aE] : List (List TParam)) rfl (eg rfl), ⟨rfl, ?_⟩⟩⟩⟩⟩⟩
 refine le (cK.partial_correctness gX (motive := fun sA xS o56 => HY = o56 → az _ _ [(1, .aN 0 0 0 0), (4, .aN 1 0 0 0), (6, .aN 3 0 0 0), (26, sl 6 aC.cells a0.aG), (27, .int .i64 (a0.aG.length : Int)), (28, .int .i64 Km), (39, .own 4 0 0 ([gX.ak, gX.aE] : List (List TParam)).length), (40, .int .i64 (([gX.ak, gX.aE] : List (List TParam)).length : Int)), (41, .int .i64 xS)] [.row 0 2 1 33 (fun _ => a0.lit), .row 0 1 1 51 (fun _ => [.own 2 0 0 sA.length]), .row 0 1 sA.length 5 (row cB sA), .row 0 6 1 57 (fun _ => gX.lit), .row 0 1 ([gX.ak, gX.aE] : List (List TParam)).length 53 (row (cL 2 TParam.cells) ([gX.ak, gX.aE] : List (List TParam)))]) ?_ v24.fB 0 HY h rfl) (tk [0, 1, 4, 3, 5] ⟨.p, .p, .p, .l, .i, .i, .o, .i, .i, ⟨⟩⟩ ⟨(bf rfl), (nb rfl ⟨.o, ⟨⟩⟩), nw, (bf rfl), nw, ⟨⟩⟩)
 intro MG NA sA xS o56 h aco
 subst aco
 refine az.round (.d (.d (sD h (fun xC h => ?_) (fun xC h => ?_))))
 obtain ⟨Nw, NB, xU⟩ := bd h
 replace h := NB
 refine .cut (fun σ η => ∃ vY, vY = Nw ∧ σ = [(1, .aN 0 0 0 0), (4, .aN 1 0 0 0), (6, .aN 3 0 0 0), (26, sl 6 aC.cells a0.aG), (27, .int .i64 (a0.aG.length : Int)), (28, .int .i64 Km), (39, .own 4 0 0 ([gX.ak, gX.aE] : List (List TParam)).length), (40, .int .i64 (([gX.ak, gX.aE] : List (List TParam)).length : Int)), (41, .int .i64 xS)] ∧ η = [.row 0 2 1 33 (fun _ => a0.lit), .row 0 1 1 51 (fun _ => [.own 2 0 0 vY.length]), .row 0 1 vY.length 5 (row cB vY), .row 0 6 1 57 (fun _ => gX.lit), .row 0 1 ([gX.ak, gX.aE] : List (List TParam)).length 53 (row (cL 2 TParam.cells) ([gX.ak, gX.aE] : List (List TParam)))]) ?_ ?_
 refine .d (bk h fun oD xV h => ⟨rfl, aI xV, _, No _, ⟨rfl, _, ((aF xV).trans rfl), (.d (bk h fun zJ Il h => (uZ (bM (g1000 := 0) (g1001 := 0) Il) [1, 2] ⟨rfl, ov, ⟨⟩⟩ (.dG []) [.row 0 2 1 33 (fun _ => a0.lit), .row 0 1 1 51 (fun _ => [.own 5 0 0 zJ.fB.length]), .dead, .row 0 6 1 57 (fun _ => gX.lit), .row 0 1 ([gX.ak, gX.aE] : List (List TParam)).length 53 (row (cL 2 TParam.cells) ([gX.ak, gX.aE] : List (List TParam))), .row 0 1 zJ.fB.length 5 (row cB zJ.fB)] (.d ?_))))⟩⟩)
 refine le (cJ.partial_correctness oD (motive := fun AO nM o54 => Nw = o54 → az _ _ [(1, .aN 0 0 0 0), (4, .aN 1 0 0 0), (6, .aN 3 0 0 0), (26, sl 6 aC.cells a0.aG), (27, .int .i64 (a0.aG.length : Int)), (28, .int .i64 Km), (39, .own 4 0 0 ([gX.ak, gX.aE] : List (List TParam)).length), (40, .int .i64 (([gX.ak, gX.aE] : List (List TParam)).length : Int)), (41, .int .i64 xS), (48, sl 2 TParam.cells oD), (49, .int .i64 (oD.length : Int)), (50, .int .i64 nM)] [.row 0 2 1 33 (fun _ => a0.lit), .row 0 1 1 51 (fun _ => [.own 2 0 0 AO.length]), .row 0 1 AO.length 5 (row cB AO), .row 0 6 1 57 (fun _ => gX.lit), .row 0 1 ([gX.ak, gX.aE] : List (List TParam)).length 53 (row (cL 2 TParam.cells) ([gX.ak, gX.aE] : List (List TParam)))]) ?_ zJ.fB 0 Nw h rfl) (tk [0, 1, 5, 3, 4] ⟨.p, .p, .p, .l, .i, .i, .o, .i, .i, .l, .i, .i, ⟨⟩⟩ ⟨(bf rfl), (nb rfl ⟨.o, ⟨⟩⟩), nw, (bf rfl), nw, ⟨⟩⟩)
 intro FA NP AO nM o54 h acp
 subst acp
 refine az.round (.d (.d (sD h (fun AI h => ?_) (fun AI h => ?_))))
 exact .d (.d (bk h fun yJ NQ h => ⟨aI NQ, _, (aF NQ).trans (TParam.au yJ), ⟨rfl, _, fun _ => [.str yJ.ao, .bool yJ.vh], rfl, aM rfl, (.d ⟨rfl, ⟨rfl, _, rfl, (bk h fun NL UK h => (uZ (bA (g1000 := 0) (g1001 := 0) UK) [1, 2] ⟨rfl, ov, ⟨⟩⟩ (.dG []) [.row 0 2 1 33 (fun _ => a0.lit), .row 0 1 1 51 (fun _ => [.own 6 0 0 NL.fB.length]), .dead, .row 0 6 1 57 (fun _ => gX.lit), .row 0 1 ([gX.ak, gX.aE] : List (List TParam)).length 53 (row (cL 2 TParam.cells) ([gX.ak, gX.aE] : List (List TParam))), .row 0 2 1 61 (fun _ => yJ.lit), .row 0 1 NL.fB.length 5 (row cB NL.fB)] ⟨rfl, ⟨rfl, _, rfl, (bk h fun Jc U8 h => (uZ (fu (g1000 := 0) (g1001 := 0) U8) [1, 6] ⟨rfl, ov, ⟨⟩⟩ (.dG []) [.row 0 2 1 33 (fun _ => a0.lit), .row 0 1 1 51 (fun _ => [.own 7 0 0 Jc.fB.length]), .dead, .row 0 6 1 57 (fun _ => gX.lit), .row 0 1 ([gX.ak, gX.aE] : List (List TParam)).length 53 (row (cL 2 TParam.cells) ([gX.ak, gX.aE] : List (List TParam))), .row 0 2 1 61 (fun _ => yJ.lit), .dead, .row 0 1 Jc.fB.length 5 (row cB Jc.fB)] (lg (NP _ _ _ h rfl) (tk [0, 1, 7, 3, 4] ⟨.p, .p, .p, .l, .i, .i, .o, .i, .i, .l, .i, .i, ⟨⟩⟩ ⟨(bf rfl), (nb rfl ⟨.o, ⟨⟩⟩), nw, (bf rfl), nw, ⟨⟩⟩))))⟩⟩))⟩⟩)⟩⟩))
 exact ct ⟨_, si h, rfl, rfl⟩ (tk [0, 1, 2, 3, 4] ⟨.p, .p, .p, .l, .i, .i, .o, .i, .i, ⟨⟩⟩ ⟨(bf rfl), (nb rfl ⟨.o, ⟨⟩⟩), nw, (bf rfl), nw, ⟨⟩⟩)
 rintro _ _ ⟨vY, rfl, rfl, rfl⟩
 replace h := xU
 exact lg (NA _ _ _ h rfl) (tk [0, 1, 2, 3, 4] ⟨.p, .p, .p, .l, .i, .i, .o, .i, .i, ⟨⟩⟩ ⟨(bf rfl), (nb rfl ⟨.o, ⟨⟩⟩), nw, (bf rfl), nw, ⟨⟩⟩)
 exact ct ⟨_, si h, rfl, rfl⟩ (tk [0, 1, 2, 3] ⟨.p, .p, .p, .l, .i, .i, ⟨⟩⟩ ⟨(bf rfl), (nb rfl ⟨.o, ⟨⟩⟩), nw, (bf rfl), ⟨⟩⟩)
 rintro _ _ ⟨FF, rfl, rfl, rfl⟩
 replace h := vt
 refine .d ⟨rfl, ⟨rfl, _, rfl, (bk h fun yG Nl h => (uZ (bM (g1000 := 0) (g1001 := 0) Nl) [1, 2] ⟨rfl, ov, ⟨⟩⟩ (.dG []) [.row 0 2 1 33 (fun _ => a0.lit), .row 0 1 1 51 (fun _ => [.own 4 0 0 yG.fB.length]), .dead, .row 0 6 1 57 (fun _ => gX.lit), .row 0 1 yG.fB.length 5 (row cB yG.fB)] ?_))⟩⟩
 obtain ⟨o61, acq, acr⟩ := bd h
 replace h := acq
 refine .cut (fun σ η => ∃ U4, U4 = o61 ∧ σ = [(1, .aN 0 0 0 0), (4, .aN 1 0 0 0), (6, .aN 3 0 0 0), (26, sl 6 aC.cells a0.aG), (27, .int .i64 (a0.aG.length : Int)), (28, .int .i64 Km)] ∧ η = [.row 0 2 1 33 (fun _ => a0.lit), .row 0 1 1 51 (fun _ => [.own 2 0 0 U4.length]), .row 0 1 U4.length 5 (row cB U4), .row 0 6 1 57 (fun _ => gX.lit)]) ?_ ?_
 refine .d ⟨rfl, ⟨rfl, _, rfl, ?_⟩⟩
 refine le (cM.partial_correctness gX (motive := fun U1 WW o73 => o61 = o73 → az _ _ [(1, .aN 0 0 0 0), (4, .aN 1 0 0 0), (6, .aN 3 0 0 0), (26, sl 6 aC.cells a0.aG), (27, .int .i64 (a0.aG.length : Int)), (28, .int .i64 Km), (67, sl 1 cS gX.ar), (68, .int .i64 (gX.ar.length : Int)), (69, .int .i64 WW)] [.row 0 2 1 33 (fun _ => a0.lit), .row 0 1 1 51 (fun _ => [.own 2 0 0 U1.length]), .row 0 1 U1.length 5 (row cB U1), .row 0 6 1 57 (fun _ => gX.lit)]) ?_ yG.fB 0 o61 h rfl) (tk [0, 1, 4, 3] ⟨.p, .p, .p, .l, .i, .i, .l, .i, .i, ⟨⟩⟩ ⟨(bf rfl), (nb rfl ⟨.o, ⟨⟩⟩), nw, (bf rfl), ⟨⟩⟩)
 intro F67 acs U1 WW o73 h acu
 subst acu
 refine az.round (.d (.d (sD h (fun IX h => ?_) (fun IX h => ?_))))
 exact .d (.d (bk h fun x69 Y4 h => ⟨aI Y4, _, (aF Y4).trans rfl, (bk h fun Y2 acv h => (uZ (bA (g1000 := 0) (g1001 := 0) acv) [1, 2] ⟨rfl, ov, ⟨⟩⟩ (.dG []) [.row 0 2 1 33 (fun _ => a0.lit), .row 0 1 1 51 (fun _ => [.own 4 0 0 Y2.fB.length]), .dead, .row 0 6 1 57 (fun _ => gX.lit), .row 0 1 Y2.fB.length 5 (row cB Y2.fB)] (lg (acs _ _ _ h rfl) (tk [0, 1, 4, 3] ⟨.p, .p, .p, .l, .i, .i, .l, .i, .i, ⟨⟩⟩ ⟨(bf rfl), (nb rfl ⟨.o, ⟨⟩⟩), nw, (bf rfl), ⟨⟩⟩))))⟩))
 exact ct ⟨_, si h, rfl, rfl⟩ (tk [0, 1, 2, 3] ⟨.p, .p, .p, .l, .i, .i, ⟨⟩⟩ ⟨(bf rfl), (nb rfl ⟨.o, ⟨⟩⟩), nw, (bf rfl), ⟨⟩⟩)
 rintro _ _ ⟨U4, rfl, rfl, rfl⟩
 replace h := acr
 refine .d ⟨rfl, ⟨rfl, _, rfl, (bk h fun v75 NZ h => (uZ (fu (g1000 := 0) (g1001 := 0) NZ) [1, 2] ⟨rfl, ov, ⟨⟩⟩ (.dG []) [.row 0 2 1 33 (fun _ => a0.lit), .row 0 1 1 51 (fun _ => [.own 4 0 0 v75.fB.length]), .dead, .row 0 6 1 57 (fun _ => gX.lit), .row 0 1 v75.fB.length 5 (row cB v75.fB)] (.d ⟨rfl, ⟨rfl, _, rfl, (bk h fun GD ND h => (uZ (bM (g1000 := 0) (g1001 := 0) ND) [1, 4] ⟨rfl, ov, ⟨⟩⟩ (.dG []) [.row 0 2 1 33 (fun _ => a0.lit), .row 0 1 1 51 (fun _ => [.own 5 0 0 GD.fB.length]), .dead, .row 0 6 1 57 (fun _ => gX.lit), .dead, .row 0 1 GD.fB.length 5 (row cB GD.fB)] (.d ⟨rfl, ⟨rfl, _, rfl, ?_⟩⟩)))⟩⟩)))⟩⟩
 refine le (cN.partial_correctness gX (motive := fun U2 WX o96 => RR = o96 → az _ _ [(1, .aN 0 0 0 0), (4, .aN 1 0 0 0), (26, sl 6 aC.cells a0.aG), (27, .int .i64 (a0.aG.length : Int)), (28, .int .i64 Km), (84, sl 5 aR.cells gX.aq), (85, .int .i64 (gX.aq.length : Int)), (86, .int .i64 WX)] [.row 0 2 1 33 (fun _ => a0.lit), .row 0 1 1 51 (fun _ => [.own 2 0 0 U2.length]), .row 0 1 U2.length 5 (row cB U2)]) ?_ GD.fB 0 RR h rfl) (tk [0, 1, 5] ⟨.p, .p, .l, .i, .i, .l, .i, .i, ⟨⟩⟩ ⟨(bf rfl), (nb rfl ⟨.o, ⟨⟩⟩), nw, ⟨⟩⟩)
 intro F82 acw U2 WX o96 h acx
 subst acx
 refine az.round (.d (.d (sD h (fun U9 h => ?_) (fun U9 h => ?_))))
 refine .d (.d (bk h fun GM Y5 h => ⟨aI Y5, _, (aF Y5).trans (aR.au GM), ⟨rfl, _, fun _ => [.int .i64 GM.aW, .int .i64 GM.fA, .int .i64 GM.fB, .str GM.fS, .str GM.fT], rfl, aM rfl, (.d ⟨rfl, ⟨rfl, _, rfl, (bk h fun QB Va h => (uZ (bM (g1000 := 0) (g1001 := 0) Va) [1, 2] ⟨rfl, ov, ⟨⟩⟩ (.dG []) [.row 0 2 1 33 (fun _ => a0.lit), .row 0 1 1 51 (fun _ => [.own 4 0 0 QB.fB.length]), .dead, .row 0 5 1 64 (fun _ => GM.lit), .row 0 1 QB.fB.length 5 (row cB QB.fB)] (.d ⟨rfl, ⟨rfl, _, rfl, (bk h fun U3 acy h => (uZ (bM (g1000 := 0) (g1001 := 0) acy) [1, 4] ⟨rfl, ov, ⟨⟩⟩ (.dG []) [.row 0 2 1 33 (fun _ => a0.lit), .row 0 1 1 51 (fun _ => [.own 5 0 0 U3.fB.length]), .dead, .row 0 5 1 64 (fun _ => GM.lit), .dead, .row 0 1 U3.fB.length 5 (row cB U3.fB)] ?_))⟩⟩)))⟩⟩)⟩⟩))
 exact .d ⟨rfl, ⟨rfl, _, rfl, (bk h fun Y3 acz h => (uZ (bM (g1000 := 0) (g1001 := 0) acz) [1, 5] ⟨rfl, ov, ⟨⟩⟩ (.dG []) [.row 0 2 1 33 (fun _ => a0.lit), .row 0 1 1 51 (fun _ => [.own 6 0 0 Y3.fB.length]), .dead, .row 0 5 1 64 (fun _ => GM.lit), .dead, .dead, .row 0 1 Y3.fB.length 5 (row cB Y3.fB)] (.d ⟨rfl, ⟨rfl, _, rfl, (bk h fun PO Vb h => (uZ (bA (g1000 := 0) (g1001 := 0) Vb) [1, 6] ⟨rfl, ov, ⟨⟩⟩ (.dG []) [.row 0 2 1 33 (fun _ => a0.lit), .row 0 1 1 51 (fun _ => [.own 7 0 0 PO.fB.length]), .dead, .row 0 5 1 64 (fun _ => GM.lit), .dead, .dead, .dead, .row 0 1 PO.fB.length 5 (row cB PO.fB)] ⟨rfl, ⟨rfl, _, rfl, (bk h fun Sp Vc h => (uZ (bA (g1000 := 0) (g1001 := 0) Vc) [1, 7] ⟨rfl, ov, ⟨⟩⟩ (.dG []) [.row 0 2 1 33 (fun _ => a0.lit), .row 0 1 1 51 (fun _ => [.own 8 0 0 Sp.fB.length]), .dead, .row 0 5 1 64 (fun _ => GM.lit), .dead, .dead, .dead, .dead, .row 0 1 Sp.fB.length 5 (row cB Sp.fB)] (lg (acw _ _ _ h rfl) (tk [0, 1, 8] ⟨.p, .p, .l, .i, .i, .l, .i, .i, ⟨⟩⟩ ⟨(bf rfl), (nb rfl ⟨.o, ⟨⟩⟩), nw, ⟨⟩⟩))))⟩⟩))⟩⟩)))⟩⟩
 exact ct ⟨_, si h, rfl, rfl⟩ (tk [0, 1, 2] ⟨.p, .p, .l, .i, .i, ⟨⟩⟩ ⟨(bf rfl), (nb rfl ⟨.o, ⟨⟩⟩), nw, ⟨⟩⟩)
 rintro _ _ ⟨U5, rfl, rfl, rfl⟩
 replace h := U7
 exact lg (acm _ _ _ h rfl) (tk [0, 1, 2] ⟨.p, .p, .l, .i, .i, ⟨⟩⟩ ⟨(bf rfl), (nb rfl ⟨.o, ⟨⟩⟩), nw, ⟨⟩⟩)
 exact ct ⟨_, si h, rfl, rfl⟩ (tk [0, 1, 2] ⟨.p, .p, ⟨⟩⟩ ⟨(bf rfl), (nb rfl ⟨.o, ⟨⟩⟩), nw, ⟨⟩⟩)
 rintro _ _ ⟨l9, rfl, rfl, rfl⟩
 replace h := GO
 refine .d ⟨rfl, ⟨rfl, _, rfl, (bk h fun Lq Y6 h => (uZ (bM (g1000 := 0) (g1001 := 0) Y6) [1, 2] ⟨rfl, ov, ⟨⟩⟩ (.dG []) [.row 0 2 1 33 (fun _ => a0.lit), .row 0 1 1 51 (fun _ => [.own 3 0 0 Lq.fB.length]), .dead, .row 0 1 Lq.fB.length 5 (row cB Lq.fB)] ?_))⟩⟩
 obtain ⟨Vd, Y7, Y8⟩ := bd h
 replace h := Y7
 refine .cut (fun σ η => ∃ Je, Je = Vd ∧ σ = [(4, .aN 0 0 0 0)] ∧ η = [.row 0 1 1 51 (fun _ => [.own 1 0 0 Je.length]), .row 0 1 Je.length 5 (row cB Je)]) ?_ ?_
 refine .d ⟨rfl, ⟨rfl, _, rfl, ?_⟩⟩
 refine le (dt.partial_correctness a0 (motive := fun Jd Lp Y9 => Vd = Y9 → az _ _ [(4, .aN 0 0 0 0), (112, sl 4 aw.cells a0.ay), (113, .int .i64 (a0.ay.length : Int)), (114, .int .i64 Lp)] [.row 0 1 1 51 (fun _ => [.own 1 0 0 Jd.length]), .row 0 1 Jd.length 5 (row cB Jd)]) ?_ Lq.fB 0 Vd h rfl) (tk [1, 3] ⟨.p, .l, .i, .i, ⟨⟩⟩ ⟨(nb rfl ⟨.o, ⟨⟩⟩), nw, ⟨⟩⟩)
 intro adZ Za Jd Lp Y9 h Zb
 subst Zb
 refine az.round (.d (.d (sD h (fun Zc h => ?_) (fun Zc h => ?_))))
 exact .d (.d (bk h fun GN Sq h => ⟨aI Sq, _, (aF Sq).trans (aw.au GN), ⟨rfl, _, fun _ => [.str GN.ao, .str GN.bD, sl 8 aB.cells GN.aA, sl 5 ax.cells GN.av], rfl, aM rfl, ⟨rfl, _, rfl, (bk h fun NX Zd h => (uZ (sQ (g1000 := 0) (g1001 := 0) Zd) [0, 1] ⟨rfl, ov, ⟨⟩⟩ (.dG []) [.row 0 1 1 51 (fun _ => [.own 3 0 0 NX.fB.length]), .dead, .row 0 4 1 68 (fun _ => GN.lit), .row 0 1 NX.fB.length 5 (row cB NX.fB)] (lg (Za _ _ _ h rfl) (tk [0, 3] ⟨.p, .l, .i, .i, ⟨⟩⟩ ⟨(nb rfl ⟨.o, ⟨⟩⟩), nw, ⟨⟩⟩))))⟩⟩⟩))
 exact ct ⟨_, si h, rfl, rfl⟩ (tk [0, 1] ⟨.p, ⟨⟩⟩ ⟨(nb rfl ⟨.o, ⟨⟩⟩), nw, ⟨⟩⟩)
 rintro _ _ ⟨Je, rfl, rfl, rfl⟩
 replace h := Y8
 refine .d ⟨rfl, ⟨rfl, _, rfl, ?_⟩⟩
 exact afG
set_option maxRecDepth 100000
def fe (a0 : aD) : Option (Bool) :=
 k6 a0 1048576 >>= fun v1 =>
 (if v1 < 0 then
 some true
 else
 (
 gg a0 >>= fun v9 =>
 fL v9 >>= fun (pt, db) =>
 some (pt, db)
 : Option ((List UInt8) × Bool)) >>= fun (l4, b5) =>
 gg a0 >>= fun oN =>
 dE oN >>= fun (v24, kY) =>
 ((
 kh v24 l4 >>= fun v30 =>
 (if v30 = true then
 (if kY = b5 then
 some (.inl ())
 else
 some (.inr false))
 else
 some (.inr false))
 : Option ((Unit) ⊕ Bool)) >>= fun HY => match HY with
 | .inr r => some r
 | .inl _ =>
 gg a0 >>= fun vW =>
 lf oN vW >>= fun v40 =>
 (if v40 = true then
 iF oN 1 >>= fun (ze, UX) =>
 ((
 (if ze < 0 then
 some (.inr false)
 else
 kh v24 l4 >>= fun Ew =>
 (if Ew = true then
 (if kY = b5 then
 some (.inl ())
 else
 some (.inr false))
 else
 some (.inr false)))
 : Option ((Unit) ⊕ Bool)) >>= fun Qe => match Qe with
 | .inr r => some r
 | .inl _ =>
 jK v24 1 >>= fun (yG, v59) =>
 iY v59 1 >>= fun B4 =>
 ((
 (if B4 < 0 then
 some (.inr false)
 else
 some (.inl ()))
 : Option ((Unit) ⊕ Bool)) >>= fun WS => match WS with
 | .inr r => some r
 | .inl _ =>
 (if B4 = yG then
 gg a0 >>= fun v70 =>
 dE v70 >>= fun (v76, GD) =>
 ((
 kh v76 l4 >>= fun WY =>
 (if WY = true then
 (if GD = b5 then
 some (.inl ())
 else
 some (.inr false))
 else
 some (.inr false))
 : Option ((Unit) ⊕ Bool)) >>= fun o79 => match o79 with
 | .inr r => some r
 | .inl _ =>
 iY v59 1 >>= fun QB =>
 (if QB < 0 then
 some false
 else
 (if QB = yG then
 some true
 else
 some false))
 )
 else
 some false)
 )
 )
 else
 some false)
 ))
theorem pZ {a0 : aD} {r : Bool} (h : fe a0 = some r) : ACall Tryz.prog 3 [.agg a0.lit] [] (fun res h => res = .bool r ∧ h = []) := by
 refine cP Tryz.func3 ?_
 unfold fe at h
 refine .d (.d (.d ⟨rfl, _, rfl, (bk h fun v1 jT h => (bO (Ab jT) (.d (.d (sD h (fun lJ h => ?_) (fun lJ h => ?_))))))⟩))
 exact afJ
 obtain ⟨o6, ho7, hk8⟩ := bd h
 replace h := ho7
 refine .cut (fun σ η => ∃ l4, ∃ b5, (l4, b5) = o6 ∧ σ = [(1, .aN 0 0 0 0), (4, .own 1 0 0 l4.length), (5, .bool b5)] ∧ η = [.row 0 2 1 25 (fun _ => a0.lit), .row 0 1 l4.length 5 (row cB l4)]) ?_ ?_
 refine ⟨rfl, _, rfl, (bk h fun v9 Ve h => (xA (mf Ve) ?_))⟩
 rintro _ _ ⟨f11, f13, d12, d14, rfl, rfl⟩
 refine ⟨.agg [.own 1 0 0 v9.aG.length, .own 2 0 0 v9.ay.length], [.row 0 2 1 25 (fun _ => a0.lit), .row 0 6 v9.aG.length 57 f11, .row 0 4 v9.ay.length 68 f13], rfl, (by simp only [aeg, aem, shr, FP d12, FP d14]; rfl), ?_⟩
 obtain ⟨⟨pt, db⟩, rL, h⟩ := bd h
 exact NW (vx rL) ⟨.jZ ⟨(.rd d12), (.rd d14), ⟨⟩⟩, ⟨⟩⟩ (.dG [.own 3 0 0 pt.length, .bool db]) [.row 0 2 1 25 (fun _ => a0.lit), .row 0 6 v9.aG.length 57 f11, .row 0 4 v9.ay.length 68 f13, .row 0 1 pt.length 5 (row cB pt)] (pD (re (fun _ => rfl)) rf) (ct ⟨_, _, si h, rfl, rfl⟩ (tk [0, 3] ⟨.p, .o, .b, ⟨⟩⟩ ⟨(bf rfl), nw, ⟨⟩⟩))
 rintro _ _ ⟨l4, b5, rfl, rfl, rfl⟩
 replace h := hk8
 refine .d ⟨rfl, _, rfl, (bk h fun oN D5 h => (xA (mf D5) ?_))⟩
 rintro _ _ ⟨f20, f22, d21, d23, rfl, rfl⟩
 refine ⟨.agg [.own 2 0 0 oN.aG.length, .own 3 0 0 oN.ay.length], [.row 0 2 1 25 (fun _ => a0.lit), .row 0 1 l4.length 5 (row cB l4), .row 0 6 oN.aG.length 57 f20, .row 0 4 oN.ay.length 68 f22], rfl, (by simp only [aeg, aem, shr, FP d21, FP d23]; rfl), ⟨rfl, _, fun _ => [.own 2 0 0 oN.aG.length, .own 3 0 0 oN.ay.length], rfl, aM rfl, (.d ⟨rfl, _, rfl, ?_⟩)⟩⟩
 obtain ⟨⟨v24, kY⟩, D7, h⟩ := bd h
 refine NW (pE D7) ⟨.jZ ⟨(.rd d21), (.rd d23), ⟨⟩⟩, ⟨⟩⟩ (.dG [.own 5 0 0 v24.length, .bool kY]) [.row 0 2 1 25 (fun _ => a0.lit), .row 0 1 l4.length 5 (row cB l4), .row 0 6 oN.aG.length 57 f20, .row 0 4 oN.ay.length 68 f22, .row 0 2 1 33 (fun _ => [.own 2 0 0 oN.aG.length, .own 3 0 0 oN.ay.length]), .row 0 1 v24.length 5 (row cB v24)] (pD (re (fun _ => rfl)) rf) ?_
 obtain ⟨HY, Ny, vt⟩ := bd h
 replace h := Ny
 refine .cut (fun σ η => .inl () = HY ∧ σ = [(1, .aN 0 0 0 0), (4, .own 1 0 0 l4.length), (5, .bool b5), (6, .aN 2 0 0 0), (7, .own 5 0 0 v24.length), (8, .bool kY)] ∧ η = [.row 0 2 1 25 (fun _ => a0.lit), .row 0 1 l4.length 5 (row cB l4), .row 0 2 1 33 (fun _ => [.own 3 0 0 oN.aG.length, .own 4 0 0 oN.ay.length]), .row 0 6 oN.aG.length 57 f20, .row 0 4 oN.ay.length 68 f22, .row 0 1 v24.length 5 (row cB v24)]) ?_ ?_
 refine .d (bk h fun v30 I0 h => (WZ (rJ I0) ⟨.r, .r, ⟨⟩⟩ (j3 h (fun xQ h => ?_) (fun xQ h => ?_))))
 refine .t (.t (.t (.t (.d ?_))))
 exact afm
 refine .f (.f (.f (tc h (fun xx h => ?_) (fun xx h => ?_))))
 refine .d ?_
 exact afm
 exact ct ⟨si h, rfl, rfl⟩ (tk [0, 1, 4, 2, 3, 5] ⟨.p, .o, .b, .p, .o, .b, ⟨⟩⟩ ⟨(bf rfl), nw, (nb rfl ⟨(.od (by first | rfl | exact d21.len | exact d21.len.symm)), (.od (by first | rfl | exact d23.len | exact d23.len.symm)), ⟨⟩⟩), (yu d21), (yu d23), nw, ⟨⟩⟩)
 rintro _ _ ⟨rfl, rfl, rfl⟩
 replace h := vt
 refine .d (.d (.float [(0, true), (1, true), (2, false), (3, false), (4, true)] agr ?_))
 refine ⟨rfl, _, rfl, ⟨rfl, _, rfl, (bk h fun vW Ey h => (xA (mf Ey) ?_))⟩⟩
 rintro _ _ ⟨f36, f38, d37, d39, rfl, rfl⟩
 refine ⟨.agg [.own 6 0 0 vW.aG.length, .own 7 0 0 vW.ay.length], [.row 0 2 1 25 (fun _ => a0.lit), .row 0 1 l4.length 5 (row cB l4), .row 0 2 1 33 (fun _ => [.own 3 0 0 oN.aG.length, .own 4 0 0 oN.ay.length]), .row 0 6 oN.aG.length 57 f20, .row 0 4 oN.ay.length 68 f22, .row 0 1 v24.length 5 (row cB v24), .row 0 6 vW.aG.length 57 f36, .row 0 4 vW.ay.length 68 f38], rfl, (by simp only [aeg, aem, shr, FP d37, FP d39]; rfl), ⟨rfl, (bk h fun v40 UY h => (WZ (Ao UY) ⟨.jZ ⟨(.rd d21), (.rd d23), ⟨⟩⟩, .jZ ⟨(.rd d37), (.rd d39), ⟨⟩⟩, ⟨⟩⟩ (j3 h (fun Vf h => ?_) (fun Vf h => ?_))))⟩⟩
 exact afJ
 refine .d (.d ⟨rfl, _, rfl, ?_⟩)
 obtain ⟨⟨ze, UX⟩, UZ, h⟩ := bd h
 refine zf (xG (g1000 := 0) (g1001 := 0) UZ d21 d23) [3, 4] ⟨(KT d21), (KT d23), ⟨⟩⟩ ?_
 rintro _ _ ⟨f46, f48, d47, d49, rfl, rfl⟩
 refine ⟨.int .i64 ze, [.row 0 2 1 25 (fun _ => a0.lit), .row 0 1 l4.length 5 (row cB l4), .row 0 2 1 33 (fun _ => [.own 3 0 0 oN.aG.length, .own 4 0 0 oN.ay.length]), .row 0 6 oN.aG.length 57 f46, .row 0 4 oN.ay.length 68 f48, .row 0 1 v24.length 5 (row cB v24), .row 0 6 vW.aG.length 57 f36, .row 0 4 vW.ay.length 68 f38], rfl, (by simp only [mU, fQ, aeg, aem, List.drop, aea, aec, J6, red d47, red d49, red d21, red d23]; rfl), ?_⟩
 obtain ⟨Qe, acA, QD⟩ := bd h
 replace h := acA
 refine .cut (fun σ η => .inl () = Qe ∧ σ = [(1, .aN 0 0 0 0), (4, .own 1 0 0 l4.length), (5, .bool b5), (7, .own 2 0 0 v24.length)] ∧ η = [.row 0 2 1 25 (fun _ => a0.lit), .row 0 1 l4.length 5 (row cB l4), .row 0 1 v24.length 5 (row cB v24)]) ?_ ?_
 refine .d (sD h (fun Un h => ?_) (fun Un h => ?_))
 refine .t (.t (.t (.t (.t (.t (.t (.t (.t (.d ?_)))))))))
 obtain rfl := si h
 replace h := QD
 exact eB h
 refine .f (.f (bk h fun Ew Uo h => (WZ (rJ Uo) ⟨.r, .r, ⟨⟩⟩ (.f (.f (j3 h (fun Up h => ?_) (fun Up h => ?_)))))))
 refine .t (.t (.t (.t (.d ?_))))
 obtain rfl := si h
 replace h := QD
 exact eB h
 refine .f (.f (.f (tc h (fun Vg h => ?_) (fun Vg h => ?_))))
 refine .d ?_
 obtain rfl := si h
 replace h := QD
 exact eB h
 exact ct ⟨si h, rfl, rfl⟩ (tk [0, 1, 5] ⟨.p, .o, .b, .o, ⟨⟩⟩ ⟨(bf rfl), nw, nw, ⟨⟩⟩)
 rintro _ _ ⟨rfl, rfl, rfl⟩
 replace h := QD
 refine .d (.d ?_)
 obtain ⟨⟨yG, v59⟩, I7, h⟩ := bd h
 refine zf (Ap (g1000 := 0) I7 DR.rM) [2] ⟨(KT DR.rM), ⟨⟩⟩ ?_
 rintro _ _ ⟨f61, d62, rfl, rfl⟩
 refine ⟨.int .i64 yG, [.row 0 2 1 25 (fun _ => a0.lit), .row 0 1 l4.length 5 (row cB l4), .row 0 1 v24.length 5 f61], rfl, (by simp only [mU, fQ, aeg, aem, List.drop, aea, aec, J6, red d62, red DR.rM]; rfl), (.d (.d (bk h fun B4 NJ h => (WZ (tg NJ) ⟨(.rd d62 agx), .i, ⟨⟩⟩ ?_))))⟩
 obtain ⟨WS, acB, Ze⟩ := bd h
 replace h := acB
 refine .cut (fun σ η => .inl () = WS ∧ σ = [(1, .aN 0 0 0 0), (4, .own 1 0 0 l4.length), (5, .bool b5), (7, .own 2 0 0 v24.length), (10, .int .i64 yG), (11, .int .i64 B4)] ∧ η = [.row 0 2 1 25 (fun _ => a0.lit), .row 0 1 l4.length 5 (row cB l4), .row 0 1 v24.length 5 f61]) ?_ ?_
 refine .d (sD h (fun IX h => ?_) (fun IX h => ?_))
 refine .d ?_
 obtain rfl := si h
 replace h := Ze
 exact eB h
 exact ct ⟨si h, rfl, rfl⟩ (tk [0, 1, 2] ⟨.p, .o, .b, (.od agx), .i, .i, ⟨⟩⟩ ⟨(bf rfl), nw, (yu d62), ⟨⟩⟩)
 rintro _ _ ⟨rfl, rfl, rfl⟩
 replace h := Ze
 refine .d (.d (sN h (fun acC h => ?_) (fun acC h => ?_)))
 exact afJ
 refine .d ⟨rfl, _, rfl, (bk h fun v70 acD h => (xA (mf acD) ?_))⟩
 rintro _ _ ⟨f72, f74, d73, d75, rfl, rfl⟩
 refine ⟨.agg [.own 3 0 0 v70.aG.length, .own 4 0 0 v70.ay.length], [.row 0 2 1 25 (fun _ => a0.lit), .row 0 1 l4.length 5 (row cB l4), .row 0 1 v24.length 5 f61, .row 0 6 v70.aG.length 57 f72, .row 0 4 v70.ay.length 68 f74], rfl, (by simp only [aeg, aem, shr, FP d73, FP d75]; rfl), ?_⟩
 obtain ⟨⟨v76, GD⟩, ND, h⟩ := bd h
 refine NW (pE ND) ⟨.jZ ⟨(.rd d73), (.rd d75), ⟨⟩⟩, ⟨⟩⟩ (.dG [.own 5 0 0 v76.length, .bool GD]) [.row 0 2 1 25 (fun _ => a0.lit), .row 0 1 l4.length 5 (row cB l4), .row 0 1 v24.length 5 f61, .row 0 6 v70.aG.length 57 f72, .row 0 4 v70.ay.length 68 f74, .row 0 1 v76.length 5 (row cB v76)] (pD (re (fun _ => rfl)) rf) ?_
 obtain ⟨o79, acE, Vh⟩ := bd h
 replace h := acE
 refine .cut (fun σ η => .inl () = o79 ∧ σ = [(7, .own 0 0 0 v24.length), (10, .int .i64 yG)] ∧ η = [.row 0 1 v24.length 5 f61]) ?_ ?_
 refine .d (bk h fun WY acF h => (WZ (rJ acF) ⟨.r, .r, ⟨⟩⟩ (j3 h (fun Uz h => ?_) (fun Uz h => ?_))))
 refine .t (.t (.t (.t (.d ?_))))
 obtain rfl := si h
 replace h := Vh
 exact eB h
 refine .f (.f (.f (tc h (fun Vi h => ?_) (fun Vi h => ?_))))
 refine .d ?_
 obtain rfl := si h
 replace h := Vh
 exact eB h
 exact ct ⟨si h, rfl, rfl⟩ (tk [2] ⟨(.od agx), .i, ⟨⟩⟩ ⟨(yu d62), ⟨⟩⟩)
 rintro _ _ ⟨rfl, rfl, rfl⟩
 replace h := Vh
 refine .d (.d (bk h fun QB Va h => (WZ (tg Va) ⟨(.rd d62 agx), .i, ⟨⟩⟩ (.d (.d (sD h (fun Vj h => ?_) (fun Vj h => ?_)))))))
 exact afJ
 refine .d (.d (sN h (fun Vk h => ?_) (fun Vk h => ?_)))
 exact afJ
 exact afJ
set_option synthInstance.maxHeartbeats 400000
set_option synthInstance.maxSize 4000
set_option maxRecDepth 100000
set_option maxHeartbeats 2000000
def Vl (a0 : ba) (a1 : Int) (a2 : Int) (r : af × Int) : Prop := ACall Tryz.prog 123 [.str a0, .int .i64 a1, .int .i64 a2] [] (fun res h => res = .dG [.agg r.1.lit, .int .i64 r.2] ∧ h = [])
inductive rh : ba → Int → Int → Int → Int → (List ae) → Int → ((Int × (List ae)) ⊕ (af × Int)) → Prop
 | mk (Vm : ba → Int → Int → Option (af × Int)) (adU : ∀ a0 a1 a2 r, Vm a0 a1 a2 = some r → Vl a0 a1 a2 r) (ri : ba → Int → Int → Int → Int → (List ae) → Int → Option ((Int × (List ae)) ⊕ (af × Int))) (Kn : ∀ a0 a2 v40 y6 Sr QE W0 o, ri a0 a2 v40 y6 Sr QE W0 = some o → rh a0 a2 v40 y6 Sr QE W0 o) (a0 : ba) (a2 : Int) (v40 : Int) (y6 : Int) (Sr : Int) (QE : List ae) (W0 : Int) (o : (Int × (List ae)) ⊕ (af × Int)) (h : (
 (if W0 < y6 then
 (if Sr ≥ 0 then
 Vm a0 Sr (ah (a2 + 1)) >>= fun (HX, MS) =>
 (if MS < 0 then
 some (.inr ((af.mk 4 0 [] v40 QE), (-1)))
 else
 wh HX.aJ 2 3 >>= fun W1 =>
 (if W1 = true then
 Vm a0 MS (ah (a2 + 1)) >>= fun (B4, HV) =>
 kV 96 QE ([(ae.mk (bJ.mk (HX.aJ == 3) HX.bb HX.bm) B4)] : List ae) >>= fun l66 =>
 ri a0 a2 v40 y6 HV l66 (ah (W0 + 1))
 else
 some (.inr ((af.mk 4 0 [] v40 QE), (-1)))))
 else
 some (.inl (Sr, QE)))
 else
 some (.inl (Sr, QE)))
 ) = some o) : rh a0 a2 v40 y6 Sr QE W0 o
set_option synthInstance.maxHeartbeats 400000
set_option synthInstance.maxSize 4000
set_option maxRecDepth 100000
set_option maxHeartbeats 2000000
set_option synthInstance.maxHeartbeats 400000
set_option synthInstance.maxSize 4000
set_option maxRecDepth 100000
def GQ (a0 : ba) : Option (bJ) :=
 Ya a0 >>= fun (v1, v2) =>
 (if v2 = true then
 some (bJ.mk false v1 [])
 else
 some (bJ.mk true 0 a0))
def Ls (a0 : af) : Option (bJ × Bool) :=
 (if a0.aJ = 0 then
 some ((bJ.mk true 0 []), true)
 else
 (
 (if a0.aJ = 1 then
 some (a0.aJ == 1)
 else
 some (a0.aJ == 2))
 : Option (Bool)) >>= fun b2 =>
 (if b2 = true then
 some ((bJ.mk false a0.bb []), true)
 else
 (if a0.aJ = 3 then
 GQ a0.bm >>= fun v9 =>
 some (v9, true)
 else
 some ((bJ.mk false 0 []), false))))
def Vn (a0 : bx) (a1 : Int) (r : af × bx) : Prop := ∀ g1000 : Nat, ACall Tryz.prog 125 [.aN 0 g1000 0 0, .int .i64 a1] [.row g1000 3 1 172 (fun _ => a0.lit)] (fun res h => ∃ F1 : Nat → List PV, DR ae.D r.1.ai.length F1 r.1.ai ∧ res = .agg [.int .i64 r.1.aJ, .int .i64 r.1.bb, .str r.1.bm, .int .i64 r.1.bs, .own 1 0 0 r.1.ai.length] ∧ h = [.row g1000 3 1 172 (fun _ => r.2.lit), .row 0 8 r.1.ai.length 197 F1])
inductive ku : Int → Int → Int → ba → Int → Bool → (List ae) → Int → ((ba × Int × Bool × (List ae)) ⊕ (af × bx)) → Prop
 | mk (Vo : bx → Int → Option (af × bx)) (adV : ∀ a0 a1 r, Vo a0 a1 = some r → Vn a0 a1 r) (kx : Int → Int → Int → ba → Int → Bool → (List ae) → Int → Option ((ba × Int × Bool × (List ae)) ⊕ (af × bx))) (zQ : ∀ a1 v46 Jc Nv Vp Ss St Ll o, kx a1 v46 Jc Nv Vp Ss St Ll = some o → ku a1 v46 Jc Nv Vp Ss St Ll o) (a1 : Int) (v46 : Int) (Jc : Int) (Nv : ba) (Vp : Int) (Ss : Bool) (St : List ae) (Ll : Int) (o : (ba × Int × Bool × (List ae)) ⊕ (af × bx)) (h : (
 (if Ll < v46 then
 (if Ss = true then
 some (.inl (Nv, Vp, Ss, St))
 else
 Vo (bx.mk Nv Vp Ss) (ah (a1 + 1)) >>= fun (PJ, XM) =>
 Ls PJ >>= fun (U3, v89) =>
 (if v89 = true then
 Vo XM (ah (a1 + 1)) >>= fun (PO, v93) =>
 kV 96 St [(ae.mk U3 PO)] >>= fun l97 =>
 kx a1 v46 Jc v93.fS v93.PQ v93.Jf l97 (ah (Ll + 1))
 else
 some (.inr ((af.mk 4 0 [] Jc St), (bx.mk XM.fS XM.PQ true)))))
 else
 some (.inl (Nv, Vp, Ss, St)))
 ) = some o) : ku a1 v46 Jc Nv Vp Ss St Ll o
set_option synthInstance.maxHeartbeats 400000
set_option synthInstance.maxSize 4000
set_option maxRecDepth 100000
set_option maxHeartbeats 2000000
set_option maxRecDepth 100000
theorem sb {α β : Type} (a : α) (f : α → Option β) : (some a >>= f) = f a := rfl
theorem tn {s : ba} {i : Nat} (h : i < s.length) : vn s (i : Int) = some (s.getD i 0) := by
 unfold vn; rw [if_pos ⟨by omega, by omega⟩]; rfl
theorem a8 {α : Type} [Inhabited α] {l : List α} {i : Nat} (h : i < l.length) : idx l (i : Int) = some l[i] := by
 unfold idx; rw [if_pos ⟨by omega, by omega⟩]
 simp [aee, h]
theorem Ge {x : Int} {n : Nat} (h : x = (n : Int)) (hn : n ≤ 9223372036854775807) : ah x = (n : Int) := by
 subst h; exact HW agi agi
theorem aS {i : Nat} (h : i < 9223372036854775807) : ah ((i : Int) + 1) = ((i + 1 : Nat) : Int) := Ge agi agi
theorem np {α : Type} {b : Nat} {l m : List α} (h : (l.length + m.length) * b ≤ 140737488355328) : kV b l m = some (l ++ m) := if_pos h
theorem EK (a b c : Int) : wh a b c = some (decide (b ≤ a ∧ a ≤ c)) := by
 unfold wh
 by_cases h : a ≥ b
 ·rw [if_pos h]; congr 1; simp; omega
 ·rw [if_neg h]; congr 1; symm; rw [decide_eq_false_iff_not]; omega
theorem rU : ∀ (k u : Nat), u < 10 ^ (k + 1) → Lib.nDigits u ≤ k + 1
 | 0, u, h => by rw [Lib.nDigits_small agz]; exact aeb _
 | k + 1, u, h => by
  by_cases h1 : u < 10
  ·rw [Lib.nDigits_small h1]; omega
  ·rw [Lib.nDigits_big h1]
   have := rU k (u / 10) agB
   omega
theorem tF (u : Nat) : Lib.decDigits u = (if u / 10 = 0 then [] else Lib.decDigits (u / 10)) ++ [UInt8.ofNat (48 + u % 10)] := by
 by_cases h : u < 10
 ·rw [if_pos agi, Lib.decDigits, dif_pos h, show u % 10 = u by omega]; rfl
 ·rw [if_neg agi]
  conv => lhs; rw [Lib.decDigits, dif_neg h]
theorem N0 : ∀ (k : Nat) (out : ba) (m : Int), m.natAbs < 10 ^ k → -9223372036854775808 ≤ m → m ≤ 9223372036854775807 → k + out.length ≤ 1000 →
  tw out m = some ((if m = 0 then [] else Lib.decDigits m.natAbs) ++ out)
 | 0, out, m, h, _, _, _ => by
  have : m = 0 := by simp at h; exact h
  subst this
  rw [tw, if_pos rfl, if_pos rfl]; rfl
 | k + 1, out, m, h, h0, h1, ho => by
  rw [tw]
  by_cases hm : m = 0
  ·rw [if_pos hm, if_pos hm]; rfl
  rw [if_neg hm, if_neg hm]
  have ab : (m.tmod 10).natAbs = m.natAbs % 10 := Int.natAbs_tmod m 10
  have ad : (m.tdiv 10).natAbs = m.natAbs / 10 := Int.natAbs_tdiv m 10
  have dv : ah (m.tdiv 10) = m.tdiv 10 := by rw [ah, HW] <;> omega
  have fin : ∀ d : Int, d = ((m.natAbs % 10 : Nat) : Int) → UInt8.ofNat (IntKind.u8.wrap (ah (48 + d))).toNat = UInt8.ofNat (48 + m.natAbs % 10) := fun d hd => by
   subst hd
   rw [ah, HW agi agi, IntKind.wrap_u8]
   congr 1
   omega
  have next : tw ([UInt8.ofNat (48 + m.natAbs % 10)] ++ out) (ah (m.tdiv 10)) = some (Lib.decDigits m.natAbs ++ out) := by
   rw [dv, N0 k _ _ agB agi agi ago, tF m.natAbs, ad, aek]
   by_cases h : m.tdiv 10 = 0
   ·rw [if_pos h, if_pos agi]
   ·rw [if_neg h, if_neg agi]
  have hs : ∀ b : UInt8, gZ [b] out = some ([b] ++ out) := fun b => if_pos ago
  by_cases hn : m.tmod 10 < 0
  ·rw [if_pos hn, hs, sb, fin _ (by rw [ah, HW] <;> omega), next]
  ·rw [if_neg hn, hs, sb, fin _ agi, next]
theorem EL (n : Int) (h0 : -9223372036854775808 ≤ n) (h1 : n ≤ 9223372036854775807) : PL n = some (Lib.itoa n) := by
 unfold PL
 by_cases h : n = 0
 ·subst h; rw [if_pos rfl, show Lib.itoa 0 = [48] by decide +kernel]
 rw [if_neg h, N0 20 [] n (by simp only [Nat.reducePow]; omega) h0 h1 agk, sb, if_neg h, aeR]
 unfold Lib.itoa
 have hL : (Lib.decDigits n.natAbs).length ≤ 20 := by rw [Lib.decDigits_length]; exact rU 19 _ agu
 by_cases hn : n < 0
 ·rw [if_pos hn, if_pos hn, gZ, if_pos ago]; rfl
 ·rw [if_neg hn, if_neg hn, show n.natAbs = n.toNat by omega]
def Zf (s : List UInt8) : Option Nat → Option Nat
 | some v => if v ≤ 1000000000000 ∧ Lib.decDigits v = s then some v else none
 | none => none
def jb (s : List UInt8) : Option Nat := if 1 ≤ s.length ∧ s.length ≤ 13 then Zf s (Lib.decFrom 0 s) else none
theorem EM {v : Nat} {c : UInt8} {r : List UInt8} (h : 48 ≤ c.toNat ∧ c.toNat ≤ 57) : Lib.decFrom v (c :: r) = Lib.decFrom (v * 10 + (c.toNat - 48)) r := by
 show (match Lib.digitVal c with | some d => Lib.decFrom (v * 10 + d) r | none => none) = _
 rw [Lib.digitVal, if_pos h]
theorem yK {v : Nat} {c : UInt8} {r : List UInt8} (h : ¬ (48 ≤ c.toNat ∧ c.toNat ≤ 57)) : Lib.decFrom v (c :: r) = none := by
 show (match Lib.digitVal c with | some d => Lib.decFrom (v * 10 + d) r | none => none) = _
 rw [Lib.digitVal, if_neg h]
theorem drop_cons {s : ba} {i : Nat} (h : i < s.length) : s.drop i = s.getD i 0 :: s.drop (i + 1) := by
 rw [aey h, aee]; simp [h]
theorem N1 (s : ba) (hs : s.length ≤ 13) : ∀ (n i v : Nat), i ≤ s.length → s.length - i = n → v < 10 ^ i →
  vq s (v : Int) (i : Int) = some (match Lib.decFrom v (s.drop i) with | some u => .inl (u : Int) | none => .inr (0, false))
 | 0, i, v, hi, hn, hv => by
  have e : i = s.length := by omega
  rw [vq, if_neg agi, e, List.drop_length]; rfl
 | n + 1, i, v, hi, hn, hv => by
  have hl : i < s.length := by omega
  have KS : v < 10000000000000 := aez hv (Nat.pow_le_pow_right agj (show i ≤ 13 by omega))
  have hc := (s.getD i 0).toNat_lt
  rw [vq, if_pos agi, tn hl, sb, EK, sb, ah, HW agi agi, drop_cons hl]
  by_cases hd : 48 ≤ (s.getD i 0).toNat ∧ (s.getD i 0).toNat ≤ 57
  ·rw [if_pos (by rw [decide_eq_true_eq]; omega), sb, EM hd]
   have e1 : IntKind.u8.wrap (((s.getD i 0).toNat : Int) - 48) = (((s.getD i 0).toNat - 48 : Nat) : Int) := by rw [IntKind.wrap_u8]; omega
   have e2 : IntKind.i64.wrap (IntKind.i64.wrap (10 * (v : Int)) + IntKind.i64.wrap (IntKind.u8.wrap (((s.getD i 0).toNat : Int) - 48))) = ((v * 10 + ((s.getD i 0).toNat - 48) : Nat) : Int) := by
    rw [e1, HW (x := 10 * (v : Int)) agi agi, HW (x := (((s.getD i 0).toNat - 48 : Nat) : Int)) agi agi, HW agi agi]
    omega
   rw [ah, ah, ah, e2, aS agi, N1 s hs n (i + 1) _ agi agi (by rw [Nat.pow_succ]; omega)]
  ·rw [if_neg (by rw [decide_eq_true_eq]; omega), yK hd]
def nbW : Option Nat → Int × Bool
 | some v => ((v : Int), true)
 | none => (0, false)
theorem Jg (s : ba) : X5 s = some (nbW (jb s)) := by
 unfold X5 jb
 rw [EK, sb]
 by_cases h : 1 ≤ s.length ∧ s.length ≤ 13
 ·rw [if_pos (by rw [decide_eq_true_eq]; omega), if_pos h]
  have e := N1 s h.2 s.length 0 0 agi agi agk
  rw [aeI] at e
  replace e : vq s 0 0 = _ := e
  rw [e, sb]
  cases hd : Lib.decFrom 0 s with
  | none => rfl
  | some u =>
   show (if (u : Int) > 1000000000000 then some (0, false) else _) = some (nbW (if u ≤ 1000000000000 ∧ Lib.decDigits u = s then some u else none))
   by_cases h1 : (u : Int) > 1000000000000
   ·rw [if_pos h1, if_neg agi]; rfl
   ·rw [if_neg h1, EL _ agi agi, sb, Lib.itoa_nonneg]
    by_cases h2 : Lib.decDigits u = s
    ·rw [if_pos h2, if_pos ⟨by omega, h2⟩]; rfl
    ·rw [if_neg h2, if_neg (fun h => h2 h.2)]; rfl
 ·rw [if_neg (by rw [decide_eq_true_eq]; omega), if_neg h]; rfl
def Jh : Option Nat → Option Int
 | some v => if v ≤ 1000000000 then some (v : Int) else none
 | none => none
def Ji : Option Nat → Option Int
 | some v => if v ≤ 1000000000 ∧ v ≠ 0 then some (-(v : Int)) else none
 | none => none
def sp (s : ba) : Option Int := if s.head? = some 45 then Ji (jb s.tail) else Jh (jb s)
def Vq : Option Int → Int × Bool
 | some v => (v, true)
 | none => (0, false)
theorem Vr (s : ba) : X6 s = some (Vq (sp s)) := by
 unfold X6 sp
 cases s with
 | nil => rw [if_neg agk, sb, if_neg agj, sb, Jg, sb]; rfl
 | cons c r =>
  have e0 : vn (c :: r) 0 = some c := tn (s := c :: r) (i := 0) agk
  rw [if_pos agk, e0, sb, sb]
  by_cases h : c = 45
  ·subst h
   rw [if_pos agj, if_pos (show (45 :: r).head? = some 45 from rfl)]
   have e1 : Gy (45 :: r) 1 = some r := by unfold Gy; rw [if_pos ⟨by omega, by simp only [aea]; omega⟩]; rfl
   rw [e1, sb, sb, Jg, sb]
   show (match nbW (jb r) with | (pt, db) => _) = some (Vq (Ji (jb r)))
   cases hp : jb r with
   | none => rfl
   | some v =>
    show (if (v : Int) > 1000000000 then some (0, false) else if (UInt8.toNat 45 : Int) == 45 then _ else _) = some (Vq (if v ≤ 1000000000 ∧ v ≠ 0 then some (-(v : Int)) else none))
    by_cases h1 : (v : Int) > 1000000000
    ·rw [if_pos h1, if_neg agi]; rfl
    ·rw [if_neg h1, if_pos agj]
     by_cases h2 : (v : Int) = 0
     ·rw [if_pos h2, if_neg agi]; rfl
     ·rw [if_neg h2, if_pos agi]
      show some (IntKind.i64.wrap (0 - (v : Int)), true) = some ((-(v : Int)), true)
      rw [HW agi agi, Int.zero_sub]
  ·have hb : (((c.toNat : Int) == 45) : Bool) = false := by
    rw [beq_eq_false_iff_ne]
    intro hc
    exact h (UInt8.toNat_inj.1 (show c.toNat = (45 : UInt8).toNat by simp; omega))
   rw [if_neg (by rw [hb]; decide), sb, if_neg agz, Jg, sb, hb]
   cases hp : jb (c :: r) with
   | none => rfl
   | some v =>
    show (if (v : Int) > 1000000000 then some (0, false) else if (false = true) then _ else _) = some (Vq (if v ≤ 1000000000 then some (v : Int) else none))
    by_cases h1 : (v : Int) > 1000000000
    ·rw [if_pos h1, if_neg agi]; rfl
    ·rw [if_neg h1, if_neg agj, if_pos agi]; rfl
theorem AS {n : Int} (h0 : -1000000000 ≤ n) (h1 : n ≤ 1000000000) : (Lib.itoa n).length ≤ 11 := by
 unfold Lib.itoa
 split
 ·simp only [aea]
  rw [Lib.decDigits_length]
  have := rU 9 n.natAbs agu
  omega
 ·rw [Lib.decDigits_length]
  have := rU 9 n.toNat agu
  omega
theorem yL {n : Int} (h0 : 0 ≤ n) (h1 : n ≤ 1000000000) : (Lib.decDigits n.toNat).length ≤ 10 := by
 rw [Lib.decDigits_length]
 exact rU 9 n.toNat agu
def AU (s : ba) (o : Option Int) : Option Int :=
 match o with | some n => if Lib.itoa n = s ∧ (-1000000000 : Int) ≤ n ∧ n ≤ 1000000000 then some n else none | none => none
theorem N2 (s : ba) (hl : s.length ≤ 18) : pw s (-1000000000) 1000000000 = AU s (Lib.atoi s) := by
 unfold pw AU
 rw [if_neg agi, Lib.atoiAll_short s hl]
 cases Lib.atoi s <;> rfl
theorem QF (s : ba) (hl : 11 < s.length) : pw s (-1000000000) 1000000000 = none := by
 unfold pw
 split
 ·rfl
 ·split
  ·rw [if_neg]
   intro h
   have := AS h.2.1 h.2.2
   rw [h.1] at this
   omega
  ·rfl
theorem Jj (s : ba) (hl : 11 < s.length) : Jh (jb s) = none := by
 unfold jb
 split
 ·cases Lib.decFrom 0 s with
  | none => rfl
  | some v =>
   show Jh (if v ≤ 1000000000000 ∧ Lib.decDigits v = s then some v else none) = none
   by_cases h : v ≤ 1000000000000 ∧ Lib.decDigits v = s
   ·rw [if_pos h]
    show (if v ≤ 1000000000 then some (v : Int) else none) = none
    rw [if_neg]
    intro hv
    have := yL (n := (v : Int)) agi agi
    rw [aep, h.2] at this
    omega
   ·rw [if_neg h]; rfl
 ·rfl
theorem GR (s : ba) (hl : 10 < s.length) : Ji (jb s) = none := by
 unfold jb
 split
 ·cases Lib.decFrom 0 s with
  | none => rfl
  | some v =>
   show Ji (if v ≤ 1000000000000 ∧ Lib.decDigits v = s then some v else none) = none
   by_cases h : v ≤ 1000000000000 ∧ Lib.decDigits v = s
   ·rw [if_pos h]
    show (if v ≤ 1000000000 ∧ v ≠ 0 then some (-(v : Int)) else none) = none
    rw [if_neg]
    intro hv
    have := yL (n := (v : Int)) agi agi
    rw [aep, h.2] at this
    omega
   ·rw [if_neg h]; rfl
 ·rfl
theorem QG (c : UInt8) (r : ba) (hl : (c :: r).length ≤ 11) (Zg : c ≠ 45) (h43 : c ≠ 43) : AU (c :: r) (Lib.atoi (c :: r)) = Jh (jb (c :: r)) := by
 have ea : Lib.atoi (c :: r) = (Lib.decFrom 0 (c :: r)).map fun (m : Nat) => (m : Int) := by
  show (if c == 45 then _ else if c == 43 then _ else (Lib.decNat (c :: r)).map fun (m : Nat) => (m : Int)) = _
  rw [if_neg (by simpa using Zg), if_neg (by simpa using h43)]
  rfl
 have eP : jb (c :: r) = Zf (c :: r) (Lib.decFrom 0 (c :: r)) := by unfold jb; rw [if_pos ⟨by simp, by omega⟩]
 rw [ea, eP]
 cases hd : Lib.decFrom 0 (c :: r) with
 | none => rfl
 | some v =>
  show (if Lib.itoa (v : Int) = c :: r ∧ (-1000000000 : Int) ≤ v ∧ (v : Int) ≤ 1000000000 then some (v : Int) else none) = Jh (if v ≤ 1000000000000 ∧ Lib.decDigits v = c :: r then some v else none)
  rw [Lib.itoa_nonneg]
  by_cases h2 : Lib.decDigits v = c :: r
  ·by_cases h3 : v ≤ 1000000000
   ·rw [if_pos ⟨h2, by omega, by omega⟩, if_pos ⟨by omega, h2⟩]
    show _ = if v ≤ 1000000000 then some (v : Int) else none
    rw [if_pos h3]
   ·rw [if_neg (fun h => h3 (by have := h.2.2; omega))]
    by_cases h4 : v ≤ 1000000000000
    ·rw [if_pos ⟨h4, h2⟩]
     show _ = if v ≤ 1000000000 then some (v : Int) else none
     rw [if_neg h3]
    ·rw [if_neg (fun h => h4 h.1)]; rfl
  ·rw [if_neg (fun h => h2 h.1), if_neg (fun h => h2 h.2)]; rfl
theorem GS (u : Nat) : ∀ c r, Lib.decDigits u = c :: r → 48 ≤ c.toNat := by
 intro c r h
 have hm : c ∈ Lib.decDigits u := by rw [h]; simp
 rw [Lib.decDigits_eq, aeo] at hm
 obtain ⟨t, _, rfl⟩ := hm
 unfold Lib.dg
 simp
 omega
theorem Zh (s : ba) : pw s (-1000000000) 1000000000 = sp s := by
 by_cases hl : 11 < s.length
 ·rw [QF s hl]
  unfold sp
  split
  ·exact (GR _ ago).symm
  ·exact (Jj _ hl).symm
 rw [N2 s agi]
 cases s with
 | nil => rfl
 | cons c r =>
  unfold sp
  by_cases Zg : c = 45
  ·subst Zg
   show AU (45 :: r) (Lib.atoi (45 :: r)) = if some (45 : UInt8) = some 45 then Ji (jb r) else Jh (jb (45 :: r))
   rw [if_pos rfl]
   show AU (45 :: r) ((Lib.decNat r).map fun (m : Nat) => -(m : Int)) = Ji (jb r)
   simp only [aea] at hl
   unfold Lib.decNat jb
   cases r with
   | nil => rfl
   | cons d r =>
    rw [if_neg agk, if_pos ⟨by simp, by omega⟩]
    cases hd : Lib.decFrom 0 (d :: r) with
    | none => rfl
    | some v =>
     show (if Lib.itoa (-(v : Int)) = 45 :: d :: r ∧ (-1000000000 : Int) ≤ -(v : Int) ∧ -(v : Int) ≤ 1000000000 then some (-(v : Int)) else none) = Ji (if v ≤ 1000000000000 ∧ Lib.decDigits v = d :: r then some v else none)
     by_cases h0 : v = 0
     ·subst h0
      rw [if_neg]
      ·by_cases h4 : (0 ≤ 1000000000000 ∧ Lib.decDigits 0 = d :: r)
       ·rw [if_pos h4]; rfl
       ·rw [if_neg h4]; rfl
      ·intro h
       have := h.1
       rw [show Lib.itoa (-((0 : Nat) : Int)) = [48] by decide +kernel] at this
       simp at this
     ·rw [Lib.itoa_neg v agi]
      by_cases h2 : Lib.decDigits v = d :: r
      ·by_cases h3 : v ≤ 1000000000
       ·rw [if_pos ⟨by rw [h2], by omega, by omega⟩, if_pos ⟨by omega, h2⟩]
        show _ = if v ≤ 1000000000 ∧ v ≠ 0 then some (-(v : Int)) else none
        rw [if_pos ⟨h3, h0⟩]
       ·rw [if_neg (fun h => h3 (by have := h.2.1; omega))]
        by_cases h4 : v ≤ 1000000000000
        ·rw [if_pos ⟨h4, h2⟩]
         show _ = if v ≤ 1000000000 ∧ v ≠ 0 then some (-(v : Int)) else none
         rw [if_neg (fun h => h3 h.1)]
        ·rw [if_neg (fun h => h4 h.1)]; rfl
      ·rw [if_neg (fun h => h2 (by simpa using h.1)), if_neg (fun h => h2 h.2)]; rfl
  ·rw [if_neg (by simpa using Zg)]
   by_cases h43 : c = 43
   ·subst h43
    have eP : Jh (jb (43 :: r)) = none := by
     unfold jb
     split
     ·rw [yK agj]; rfl
     ·rfl
    rw [eP]
    show AU (43 :: r) ((Lib.decNat r).map fun (m : Nat) => (m : Int)) = none
    cases Lib.decNat r with
    | none => rfl
    | some v =>
     show (if Lib.itoa (v : Int) = 43 :: r ∧ _ then some (v : Int) else none) = none
     rw [if_neg]
     intro h
     have h1 := h.1
     rw [Lib.itoa_nonneg] at h1
     exact absurd (GS v _ _ h1) agj
   ·exact QG c r agi Zg h43
inductive Sm : af → Prop
 | mk {k n : Int} {s : ba} {x : Int} {l : List ae} (h : l.length ≤ 2000000) (hl : ∀ e ∈ l, Sm e.aL) : Sm (.mk k n s x l)
theorem Sm.len {v : af} (h : Sm v) : v.ai.length ≤ 2000000 := by cases h; assumption
theorem Sm.of {v : af} (h : v.ai.length ≤ 2000000) (hl : ∀ e ∈ v.ai, Sm e.aL) : Sm v := by
 cases v; exact .mk h hl
def vk (k : bJ) : Bool :=
 if k.cr = true then (if k.bb = 0 then (if (k.bm.length : Int) ≤ 400 then !(Vq (sp k.bm)).2 else false) else false)
 else (if decide ((-1000000000 : Int) ≤ k.bb ∧ k.bb ≤ 1000000000) = true then (k.bm == ([] : ba)) else false)
theorem Vs (k : bJ) : m23 k = some (vk k) := by
 unfold m23 vk
 split
 ·rw [Vr, sb]
  show (if k.bb = 0 then _ else _) = _
  split
  ·split <;> rfl
  ·rfl
 ·rw [EK, sb]
  split <;> rfl
theorem Vt (s : ba) : Yb s (-1000000000) 1000000000 = some (Vq (sp s)) := by
 unfold Yb
 rw [Zh]
 cases sp s <;> rfl
theorem Vu (k : bJ) : Ul k = some (vk k) := by
 unfold Ul vk
 split
 ·unfold Ya
  rw [Vt, sb]
  show (if k.bb = 0 then _ else _) = _
  split
  ·split <;> rfl
  ·rfl
 ·split
  ·rename_i h
   unfold yx
   rw [h]
   by_cases h1 : (-1000000000 : Int) ≤ k.bb
   ·rw [if_pos h1, sb]
    by_cases h2 : k.bb ≤ 1000000000
    ·rw [if_pos ago, decide_eq_true h2]; rfl
    ·rw [if_neg ago, decide_eq_false h2]
   ·rw [if_neg h1, sb, if_neg ago]
  ·rename_i h
   split
   ·rw [beq_eq_false_iff_ne.2 h]
   ·rfl
def At (l : List ae) (k : bJ) (r : Int) : Prop :=
 (r = -1 ∧ ∀ e ∈ l, e.aX ≠ k) ∨ ∃ j, ∃ h : j < l.length, r = (j : Int) ∧ l[j].aX = k ∧ ∀ i, ∀ hi : i < j, (l[i]'agi).aX ≠ k
theorem At.uniq {l : List ae} {k : bJ} {r : Int} {j : Nat} (h : At l k r) (hj : j < l.length) (he : l[j].aX = k) (hf : ∀ i, ∀ hi : i < j, (l[i]'agi).aX ≠ k) : r = (j : Int) := by
 rcases h with ⟨_, h⟩ | ⟨i, hi, e, h1, h2⟩
 ·exact absurd he (h _ (aef hj))
 ·rcases Nat.lt_trichotomy i j with h3 | h3 | h3
  ·exact absurd h1 (hf i h3)
  ·rw [e, h3]
  ·exact absurd he (h2 j h3)
theorem Vv (v : af) (k : bJ) (hk : v.aJ = 4) (hl : v.ai.length ≤ 4000000) : ∀ m i : Nat, i ≤ v.ai.length → v.ai.length - i = m →
  (∀ j, ∀ hj : j < i, ∀ hj2 : j < v.ai.length, v.ai[j].aX ≠ k) → ∃ r, vm v k (i : Int) = some r ∧ ((r = .inl () ∧ ∀ e ∈ v.ai, e.aX ≠ k) ∨ ∃ q, r = .inr q ∧ At v.ai k q) := by
 intro m
 induction m with
 | zero =>
  intro i h1 h2 h3
  rw [vm, if_pos hk, if_neg agi]
  refine ⟨_, rfl, .inl ⟨rfl, fun e he => ?_⟩⟩
  obtain ⟨j, hj, rfl⟩ := aeP.1 he
  exact h3 j agi hj
 | succ m ihm =>
  intro i h1 h2 h3
  have bP : i < v.ai.length := by omega
  rw [vm, if_pos hk, if_pos agi, a8 bP, sb]
  by_cases he : v.ai[i].aX = k
  ·rw [if_pos he]
   exact ⟨_, rfl, .inr ⟨_, rfl, .inr ⟨i, bP, rfl, he, fun j hj => h3 j hj agi⟩⟩⟩
  ·rw [if_neg he, aS agi]
   refine ihm (i + 1) agi agi (fun j hj hj2 => ?_)
   rcases aeK j i with h4 | h4
   ·exact h3 j h4 hj2
   ·obtain rfl : j = i := by omega
    exact he
theorem Vw (v : af) (k : bJ) (hk : v.aJ = 4) (hl : v.ai.length ≤ 4000000) : ∃ r, PI v k = some r ∧ At v.ai k r := by
 obtain ⟨r, e, h⟩ := Vv v k hk hl v.ai.length 0 agi agi (fun j hj => absurd hj (aeB _))
 replace e : vm v k 0 = some r := e
 unfold PI
 rw [e, sb]
 rcases h with ⟨rfl, h⟩ | ⟨q, rfl, h⟩
 ·exact ⟨_, rfl, .inl ⟨rfl, h⟩⟩
 ·exact ⟨_, rfl, h⟩
theorem mB {n : Int} (h0 : -1000000000000 ≤ n) (h1 : n ≤ 1000000000000) : (Lib.itoa n).length ≤ 14 := by
 unfold Lib.itoa
 split
 ·simp only [aea]
  rw [Lib.decDigits_length]
  have := rU 12 n.natAbs agu
  omega
 ·rw [Lib.decDigits_length]
  have := rU 12 n.toNat agu
  omega
theorem Vx {n : Int} (h0 : -9223372036854775808 ≤ n) (h1 : n ≤ 9223372036854775807) : m73 n = some (Lib.itoa n) := if_pos ⟨h0, h1⟩
theorem dS {a b : ba} (h : a.length + b.length ≤ 4611686018427387904) : gZ a b = some (a ++ b) := if_pos h
theorem N3 {l : List ae} {k : bJ} {i : Nat} (h : At l k (i : Int)) (hi : i < l.length) : ∀ j, ∀ hj : j < i, (l[j]'agi).aX ≠ k := by
 rcases h with ⟨h, _⟩ | ⟨j, hj, e, h1, h2⟩
 ·omega
 ·obtain rfl : i = j := by omega
  exact h2
mutual
def af.wt : af → Nat | .mk _ _ _ _ l => 1 + ae.zN l
def ae.wt : ae → Nat | .mk _ v => v.wt
def ae.zN : List ae → Nat | [] => 0 | x :: r => x.wt + ae.zN r
end
theorem af.pr (v : af) : v.wt = 1 + ae.zN v.ai := by cases v; simp [af.wt]
theorem ae.pr (e : ae) : e.wt = e.aL.wt := by cases e; simp [ae.wt]
theorem jW (v : af) : 1 ≤ v.wt := by rw [v.pr]; omega
theorem nK (x : ae) (r : List ae) : ae.zN (x :: r) = x.aL.wt + ae.zN r := by rw [← x.pr]; simp [ae.zN]
theorem wx : ∀ (l : List ae) (e : ae), e ∈ l → e.aL.wt ≤ ae.zN l
 | x :: r, e, h => by
  rw [nK]
  rcases aej.1 h with rfl | h
  ·omega
  ·have := wx r e h; omega
theorem zO : ∀ l : List ae, l.length ≤ ae.zN l
 | [] => by simp
 | x :: r => by rw [nK]; have := zO r; have := jW x.aL; simp only [aea]; omega
theorem tG {v : af} : v.ai.length < v.wt := by rw [v.pr]; have := zO v.ai; omega
theorem qo {v : af} {e : ae} (he : e ∈ v.ai) : e.aL.wt < v.wt := by rw [v.pr]; have := wx _ e he; omega
mutual
def af.kw : af → Nat | .mk k _ _ _ l => if k = 4 then 1 + ae.FG l else 1
def ae.kw : ae → Nat | .mk _ v => v.kw
def ae.FG : List ae → Nat | [] => 0 | x :: r => x.kw + ae.FG r
end
theorem af.AV (v : af) : v.kw = if v.aJ = 4 then 1 + ae.FG v.ai else 1 := by cases v; unfold af.kw; rfl
theorem ae.AV (e : ae) : e.kw = e.aL.kw := by cases e; simp [ae.kw]
theorem EN : ae.FG [] = 0 := by simp [ae.FG]
theorem GU (x : ae) (r : List ae) : ae.FG (x :: r) = x.aL.kw + ae.FG r := by rw [← x.AV]; simp [ae.FG]
theorem N4 (n : Nat) (ih : ∀ v : af, v.wt ≤ n → v.kw ≤ v.wt) : ∀ l : List ae, ae.zN l ≤ n → ae.FG l ≤ ae.zN l
 | [], _ => by rw [EN]; omega
 | x :: r, h => by
  rw [nK] at h
  rw [GU, nK]
  have := ih x.aL agi
  have := N4 n ih r agi
  omega
theorem Ko : ∀ (n : Nat) (v : af), v.wt ≤ n → v.kw ≤ v.wt
 | 0, v, h => by have := jW v; omega
 | n + 1, v, h => by
  have h' := h
  rw [v.pr] at h'
  rw [v.AV, v.pr]
  split
  ·have := N4 n (Ko n) v.ai agi; omega
  ·omega
theorem Su (v : af) : v.kw ≤ v.wt := Ko _ v (aeb _)
theorem GV {l : List ae} {i : Nat} (h : i < l.length) : ae.FG (l.drop i) = l[i].aL.kw + ae.FG (l.drop (i + 1)) := by rw [aey h, GU]
theorem Vy {x : Int} {n : Nat} (h : x = (n : Int)) (hn : n < 9000000000000000000) : ah x = (n : Int) := by subst h; rw [ah, HW agi agi]
theorem xO : ∀ (n : Nat), n ≤ 2000000 → ∀ v : af, v.wt ≤ n → lD v = some (v.kw : Int)
 | 0, _, v, h => by have := jW v; omega
 | n + 1, hn, v, h => by
  have hlen := tG (v := v)
  have hkw := Su v
  rw [lD, v.AV]
  by_cases hk : v.aJ = 4
  ·rw [v.AV, if_pos hk] at hkw
   have go : ∀ m i : Nat, i ≤ v.ai.length → v.ai.length - i = m → ∀ y : Nat, y + ae.FG (v.ai.drop i) = 1 + ae.FG v.ai → ja v (y : Int) (i : Int) = some ((1 + ae.FG v.ai : Nat) : Int) := by
    intro m
    induction m with
    | zero =>
     intro i h1 h2 y hy
     rw [ja, if_neg agi]
     rw [aeV agi, EN] at hy
     rw [← hy]; rfl
    | succ m ihm =>
     intro i h1 h2 y hy
     have bP : i < v.ai.length := by omega
     rw [GV bP] at hy
     have W2 := qo (aef bP)
     rw [ja, if_pos agi, a8 bP, sb, xO n agi _ agi, sb, aS agi, Vy (n := y + v.ai[i].aL.kw) agi agi]
     exact ihm (i + 1) agi agi _ agi
   have e := go v.ai.length 0 agi agi 1 agk
   replace e : ja v 1 0 = some ((1 + ae.FG v.ai : Nat) : Int) := e
   rw [if_pos hk, if_pos hk, e, sb]
  ·rw [if_neg hk, if_neg hk, sb]; rfl
theorem GW : ∀ (n : Nat), n ≤ 2000000 → ∀ v : af, v.wt ≤ n → ∀ q : Int, -2000000 ≤ q → q ≤ 2000000 → ∃ r : Nat, Sf v q = some (r : Int) ∧ r ≤ v.kw ∧ ((v.kw : Int) ≤ q → r = v.kw) ∧ (q < (v.kw : Int) → q < (r : Int))
 | 0, _, v, h => by have := jW v; omega
 | n + 1, hn, v, h => by
  intro q hq0 hq1
  have hlen := tG (v := v)
  have hkw := Su v
  by_cases hk : v.aJ = 4
  ·have ekw : v.kw = 1 + ae.FG v.ai := by rw [v.AV, if_pos hk]
   have go : ∀ m i : Nat, i ≤ v.ai.length → v.ai.length - i = m → ∀ y : Nat, y + ae.FG (v.ai.drop i) ≤ v.kw → ((y : Int) ≤ q → y + ae.FG (v.ai.drop i) = v.kw) →
     ∃ r : Nat, tv v q (y : Int) (i : Int) = some (r : Int) ∧ r ≤ v.kw ∧ ((v.kw : Int) ≤ q → r = v.kw) ∧ (q < (v.kw : Int) → q < (r : Int)) := by
    intro m
    induction m with
    | zero =>
     intro i h1 h2 y hy hy2
     rw [aeV agi, EN] at hy hy2
     rw [tv, if_pos hk, if_neg agi]
     exact ⟨y, rfl, by omega, fun h => by omega, fun h => by omega⟩
    | succ m ihm =>
     intro i h1 h2 y hy hy2
     have bP : i < v.ai.length := by omega
     have W2 := qo (aef bP)
     rw [GV bP] at hy hy2
     rw [tv, if_pos hk, if_pos agi]
     by_cases hyq : (y : Int) ≤ q
     ·have e1 : ah (q - (y : Int)) = q - y := by rw [ah, HW agi agi]
      obtain ⟨r, e, g1, g2, g3⟩ := GW n agi v.ai[i].aL agi (q - y) agi agi
      rw [if_pos hyq, a8 bP, sb, e1, e, sb, aS agi, Vy (n := y + r) agi agi]
      exact ihm (i + 1) agi agi _ agi (fun h => by omega)
     ·rw [if_neg hyq]
      exact ⟨y, rfl, by omega, fun h => by omega, fun h => by omega⟩
   obtain ⟨r, e, g⟩ := go v.ai.length 0 agi agi 1 ago (fun _ => by simp; omega)
   replace e : tv v q 1 0 = some (r : Int) := e
   rw [Sf, e, sb]
   exact ⟨r, rfl, g⟩
  ·have ekw : v.kw = 1 := by rw [v.AV, if_neg hk]
   rw [Sf, tv, if_neg hk, sb]
   exact ⟨1, rfl, by omega, fun _ => by omega, fun h => by omega⟩
mutual
def af.xq : af → Bool
 | .mk k n s x l => (decide (k = 3) || s == []) && (decide (k = 4) || (decide (x = 0) && l.isEmpty)) &&
   (if k = 0 then n == 0 else if k = 1 then (decide (n = 0) || n == 1) else if k = 2 then decide (-1000000000 ≤ n ∧ n ≤ 1000000000) else if k = 3 then (decide (n = 0) && decide ((s.length : Int) ≤ 400))
    else if k = 6 ∨ k = 7 ∨ k = 8 then decide (0 ≤ n ∧ n ≤ 255) else if k = 4 then decide (n = 0) && decide (0 ≤ x ∧ x ≤ 1000000001) && ae.tH l x [] else false)
def ae.Vz : ae → Bool | .mk _ v => v.xq
def ae.tH : List ae → Int → List bJ → Bool
 | [], _, _ => true
 | e :: r, x, seen => vk e.aX && (e.aX.cr || decide (e.aX.bb < x)) && !(decide (e.aX ∈ seen)) && e.Vz && ae.tH r x (seen ++ [e.aX])
end
theorem QH (e : ae) : e.Vz = e.aL.xq := by cases e; simp [ae.Vz]
theorem AW (x : Int) (s : List bJ) : ae.tH [] x s = true := by simp [ae.tH]
theorem C5 (e : ae) (r : List ae) (x : Int) (s : List bJ) : ae.tH (e :: r) x s = (vk e.aX && (e.aX.cr || decide (e.aX.bb < x)) && !(decide (e.aX ∈ s)) && e.aL.xq && ae.tH r x (s ++ [e.aX])) := by
 rw [← QH]; simp [ae.tH]
theorem tr (k n : Int) (s : ba) (x : Int) (l : List ae) : (af.mk k n s x l).xq = ((decide (k = 3) || s == []) && (decide (k = 4) || (decide (x = 0) && l.isEmpty)) &&
   (if k = 0 then n == 0 else if k = 1 then (decide (n = 0) || n == 1) else if k = 2 then decide (-1000000000 ≤ n ∧ n ≤ 1000000000) else if k = 3 then (decide (n = 0) && decide ((s.length : Int) ≤ 400))
    else if k = 6 ∨ k = 7 ∨ k = 8 then decide (0 ≤ n ∧ n ≤ 255) else if k = 4 then decide (n = 0) && decide (0 ≤ x ∧ x ≤ 1000000001) && ae.tH l x [] else false)) := by simp [af.xq]
def VL (x : Int) (l : List ae) : Prop := (∀ e ∈ l, vk e.aX = true ∧ (e.aX.cr = true ∨ e.aX.bb < x) ∧ e.aL.xq = true) ∧ (l.map (·.aX)).Nodup
theorem GX : ∀ (l : List ae) (x : Int) (s : List bJ), ae.tH l x s = true ↔ VL x l ∧ ∀ e ∈ l, e.aX ∉ s
 | [], x, s => by rw [AW]; simp [VL]
 | e :: r, x, s => by
  rw [C5]
  simp only [an, aeH, aeD, decide_eq_true_eq, decide_eq_false_iff_not, GX r x (s ++ [e.aX]), VL, aej, forall_eq_or_imp, aeg, List.nodup_cons, aeh, List.mem_singleton, aeo, not_or, not_exists, not_and]
  constructor
  ·rintro ⟨⟨⟨⟨a1, a2⟩, a3⟩, a4⟩, ⟨b1, b2⟩, b3⟩
   exact ⟨⟨⟨⟨a1, a2, a4⟩, b1⟩, fun x hx he => (b3 x hx).2.1 he, b2⟩, a3, fun e' he' => (b3 e' he').1⟩
  ·rintro ⟨⟨⟨⟨a1, a2, a4⟩, b1⟩, c1, b2⟩, a3, c2⟩
   exact ⟨⟨⟨⟨a1, a2⟩, a3⟩, a4⟩, ⟨b1, b2⟩, fun e' he' => ⟨c2 e' he', fun h => c1 e' he' h, List.not_mem_nil⟩⟩
theorem Kp {v : af} (hk : v.aJ = 4) : v.xq = true ↔ v.bm = [] ∧ v.bb = 0 ∧ (0 ≤ v.bs ∧ v.bs ≤ 1000000001) ∧ VL v.bs v.ai := by
 cases v with
 | mk k n s x l =>
  simp only [af.mw] at hk
  subst hk
  rw [tr]
  simp [GX]
  intro _
  rw [and_assoc]
theorem ui {κ β : Type} [DecidableEq κ] : ∀ (l : List (κ × β)) (k : κ) (v : β) (k' : κ), hJ (fp l k v) k' = if k' = k then some v else hJ l k'
 | [], k, v, k' => by
  unfold fp hJ
  by_cases h : k' = k
  ·rw [if_pos h, if_pos h]
  ·rw [if_neg h, if_neg h]; rfl
 | (a, b) :: r, k, v, k' => by
  unfold fp
  by_cases hk : k = a
  ·rw [if_pos hk]
   subst hk
   simp only [hJ]
   by_cases h : k' = k
   ·rw [if_pos h, if_pos h]
   ·rw [if_neg h, if_neg h]
    rw [if_neg h]
  ·rw [if_neg hk]
   simp only [hJ, ui r k v k']
   by_cases h : k' = a
   ·rw [if_pos h, if_pos h, if_neg (by rw [h]; exact fun he => hk he.symm)]
   ·rw [if_neg h, if_neg h]
theorem QI {κ β : Type} [DecidableEq κ] (l : List (κ × β)) (k : κ) (v : β) (k' : κ) (z : β) : rF (fp l k v) k' z = if k' = k then v else rF l k' z := by
 unfold rF
 rw [ui]
 split <;> rfl
def yM (b : Bool) : (Unit) ⊕ ((Unit) ⊕ Bool) := if b = true then .inl () else .inr (.inr false)
theorem C6 {l : List ae} {x : Int} {i : Nat} (h : i < l.length) : ae.tH (l.drop i) x ((l.take i).map (·.aX)) =
  (vk l[i].aX && (l[i].aX.cr || decide (l[i].aX.bb < x)) && !(decide (l[i].aX ∈ (l.take i).map (·.aX))) && l[i].aL.xq && ae.tH (l.drop (i + 1)) x ((l.take (i + 1)).map (·.aX))) := by
 rw [aey h, C5, ← List.take_append_getElem h, aeG]; rfl
theorem N5 {l : List ae} {i : Nat} {k : bJ} (hi : i ≤ l.length) : k ∈ (l.take i).map (·.aX) ↔ ∃ j, ∃ h : j < i, (l[j]'agi).aX = k := by
 rw [aeo]
 constructor
 ·rintro ⟨e, he, rfl⟩
  obtain ⟨j, hj, rfl⟩ := aeP.1 he
  rw [List.length_take] at hj
  exact ⟨j, by omega, by rw [List.getElem_take]⟩
 ·rintro ⟨j, h, rfl⟩
  exact ⟨l[j]'agi, aeP.2 ⟨j, by rw [List.length_take]; omega, by rw [List.getElem_take]⟩, rfl⟩
theorem GY : ∀ (n : Nat), n ≤ 2000000 → ∀ v : af, v.wt ≤ n → Sh v = some v.xq
 | 0, _, v, h => by have := jW v; omega
 | n + 1, hn, v, h => by
  have hlen := tG (v := v)
  cases v with
  | mk k q s x l =>
   have loop : k = 4 → tz (.mk k q s x l) 0 = some (yM (ae.tH l x [])) := fun hk => by
    have go : ∀ m i : Nat, i ≤ l.length → l.length - i = m → tz (.mk k q s x l) (i : Int) = some (yM (ae.tH (l.drop i) x ((l.take i).map (·.aX)))) := by
     intro m
     induction m with
     | zero =>
      intro i h1 h2
      rw [tz, af.gO, if_neg agi, aeV agi, AW]; rfl
     | succ m ihm =>
      intro i h1 h2
      have bP : i < l.length := by omega
      have W2 := qo (v := .mk k q s x l) (e := l[i]) (aef bP)
      obtain ⟨r9, e9, a9⟩ := Vw (.mk k q s x l) l[i].aX hk (show l.length ≤ 4000000 by simp only [af.gO] at hlen; omega)
      have hr9 : r9 = (i : Int) ↔ l[i].aX ∉ (l.take i).map (·.aX) := by
       rw [N5 agi]
       constructor
       ·rintro rfl ⟨j, hj, he⟩
        exact N3 a9 (show i < l.length from bP) j hj he
       ·intro wq
        exact a9.uniq (show i < l.length from bP) rfl (fun j hj he => wq ⟨j, hj, he⟩)
      rw [tz, af.gO, if_pos agi, a8 bP, sb, Vs, sb, e9, sb, sb, GY n agi _ agi, sb, C6 bP]
      have ih := ihm (i + 1) agi agi
      rw [aS (by simp only [af.gO] at hlen; omega), ih]
      cases hvk : vk l[i].aX with
      | false => rfl
      | true =>
       simp only [if_true, aeW, af.nJ, hr9]
       cases hvo : l[i].aL.xq with
       | false =>
        simp only [Bool.and_false, afe, aeX, if_false]
        repeat (first | rfl | split)
       | true =>
        simp only [if_true, Bool.and_true]
        cases ht : l[i].aX.cr with
        | true =>
         simp only [if_true, Bool.true_or, aeW]
         by_cases hm : l[i].aX ∈ (l.take i).map (·.aX)
         ·rw [if_neg (fun h => h hm), decide_eq_true hm]; rfl
         ·rw [if_pos hm, decide_eq_false hm]; rfl
        | false =>
         simp only [aeX, if_false, Bool.false_or]
         by_cases hx : l[i].aX.bb < x
         ·rw [if_neg agi, decide_eq_true hx]
          by_cases hm : l[i].aX ∈ (l.take i).map (·.aX)
          ·rw [if_neg (fun h => h hm), decide_eq_true hm]; rfl
          ·rw [if_pos hm, decide_eq_false hm]; rfl
         ·rw [if_pos agi, decide_eq_false hx]; rfl
    exact go l.length 0 agi agi
   rw [Sh, tr]
   simp only [af.mw, af.uj, af.uk, af.nJ, af.gO, EK, sb]
   by_cases h4 : k = 4
   ·rw [loop h4]
    subst h4
    by_cases hs : s = [] <;> by_cases hq : q = 0 <;> by_cases hx : 0 ≤ x ∧ x ≤ 1000000001 <;> cases ae.tH l x [] <;> simp [hs, hq, hx, sb, yM]
   ·by_cases h3 : k = 3
    ·subst h3
     by_cases hx : x = 0 <;> by_cases hq : q = 0 <;> cases l <;> simp [hx, hq, sb] <;> try rfl
    ·by_cases hs : s = []
     ·by_cases hx : x = 0
      ·cases l with
       | cons e r => simp [h3, h4, hs, hx, sb]
       | nil =>
        by_cases h0 : k = 0
        ·subst h0; simp [hs, hx, sb]
        ·by_cases h1 : k = 1
         ·subst h1
          by_cases q0 : q = 0
          ·subst q0; simp [hs, hx, sb]
          ·by_cases q1 : q = 1
           ·subst q1; simp [hs, hx, sb]
           ·have hn2 : ¬ (0 ≤ q ∧ q ≤ 1) := by omega
            have hn3 : decide (0 ≤ q ∧ q ≤ 1) = false := decide_eq_false hn2
            have hn4 : decide (q = 0) = false := decide_eq_false q0
            simp [hs, hx, sb, q0, q1, hn2]
            try omega
         ·by_cases h2 : k = 2
          ·subst h2; simp [hs, hx, sb]
          ·by_cases h6 : k = 6
           ·subst h6; simp [hs, hx, sb]
           ·by_cases h7 : k = 7
            ·subst h7; simp [hs, hx, sb]
            ·by_cases h8 : k = 8
             ·subst h8; simp [hs, hx, sb]
             ·simp [h0, h1, h2, h3, h4, h6, h7, h8, hs, hx, sb]
      ·simp [h3, h4, hs, hx, sb]
     ·simp [h3, h4, hs, sb]
theorem qJ : ∀ (n : Nat), n ≤ 2000000 → ∀ v : af, v.wt ≤ n → fq v = some v.xq
 | 0, _, v, h => by have := jW v; omega
 | n + 1, hn, v, h => by
  have hlen := tG (v := v)
  cases v with
  | mk k q s x l =>
   have loop : dD (.mk k q s x l) [] 0 = some (yM (ae.tH l x [])) := by
    have go : ∀ m i : Nat, i ≤ l.length → l.length - i = m → ∀ sn : List (bJ × Bool), (∀ k, rF sn k false = true ↔ k ∈ (l.take i).map (·.aX)) → dD (.mk k q s x l) sn (i : Int) = some (yM (ae.tH (l.drop i) x ((l.take i).map (·.aX)))) := by
     intro m
     induction m with
     | zero =>
      intro i h1 h2 sn Qp
      rw [dD, af.gO, if_neg agi, aeV agi, AW]; rfl
     | succ m ihm =>
      intro i h1 h2 sn Qp
      have bP : i < l.length := by omega
      have W2 := qo (v := .mk k q s x l) (e := l[i]) (aef bP)
      rw [dD, af.gO, if_pos agi, a8 bP, sb, Vu, sb, qJ n agi _ agi, sb, C6 bP]
      have ih := ihm (i + 1) agi agi (fp sn l[i].aX true) (fun k => by
       rw [QI, ← List.take_append_getElem bP, aeG, aeh, List.map_singleton, List.mem_singleton, ← Qp k]
       by_cases hk : k = l[i].aX
       ·rw [if_pos hk]; simp [hk]
       ·rw [if_neg hk]; simp [hk])
      rw [aS (by simp only [af.gO] at hlen; omega), ih]
      cases hvk : vk l[i].aX with
      | false => rfl
      | true =>
       simp only [if_true, aeW, af.nJ, Qp]
       by_cases hm : l[i].aX ∈ (l.take i).map (·.aX)
       ·rw [if_pos hm, decide_eq_true hm]
        simp only [Bool.not_true, Bool.and_false, afe]
        rfl
       ·rw [if_neg hm, decide_eq_false hm]
        cases hvo : l[i].aL.xq with
        | false =>
         simp only [Bool.and_false, afe, aeX, if_false]
         repeat (first | rfl | split)
        | true =>
         simp only [if_true, Bool.and_true, Bool.not_false]
         cases ht : l[i].aX.cr with
         | true => simp only [if_true, Bool.true_or, aeW]
         | false =>
          simp only [aeX, if_false, Bool.false_or]
          by_cases hx : l[i].aX.bb < x
          ·rw [if_neg agi, decide_eq_true hx]; rfl
          ·rw [if_pos agi, decide_eq_false hx]; rfl
    exact go l.length 0 agi agi [] (fun k => by simp [rF, hJ])
   have N6 : ∀ a b c : Int, yx a b c = some (decide (b ≤ a ∧ a ≤ c)) := fun a b c => by
    unfold yx
    by_cases h1 : b ≤ a
    ·rw [if_pos agi]
     by_cases h2 : a ≤ c
     ·simp [h1, h2]
     ·simp [h2]
    ·rw [if_neg agi]
     simp [h1]
   rw [fq, tr]
   simp only [af.mw, af.uj, af.uk, af.nJ, af.gO, N6, sb]
   rw [loop]
   by_cases h4 : k = 4
   ·subst h4
    by_cases hs : s = [] <;> by_cases hq : q = 0 <;> by_cases hx : 0 ≤ x ∧ x ≤ 1000000001 <;> cases ae.tH l x [] <;> simp [hs, hq, hx, sb, yM]
   ·by_cases h3 : k = 3
    ·subst h3
     by_cases hx : x = 0 <;> by_cases hq : q = 0 <;> cases l <;> simp [hx, hq, sb] <;> try rfl
    ·by_cases hs : s = []
     ·by_cases hx : x = 0
      ·cases l with
       | cons e r => simp [h3, h4, hs, hx, sb]
       | nil =>
        by_cases h0 : k = 0
        ·subst h0; simp [hs, hx, sb]
        ·by_cases h1 : k = 1
         ·subst h1
          by_cases q0 : q = 0
          ·subst q0; simp [hs, hx, sb]
          ·simp [hs, hx, sb, q0]
         ·by_cases h2 : k = 2
          ·subst h2; simp [hs, hx, sb]
          ·by_cases h6 : k = 6
           ·subst h6; simp [hs, hx, sb]
           ·by_cases h7 : k = 7
            ·subst h7; simp [hs, hx, sb]
            ·by_cases h8 : k = 8
             ·subst h8; simp [hs, hx, sb]
             ·simp [h0, h1, h2, h3, h4, h6, h7, h8, hs, hx, sb]
      ·simp [h3, h4, hs, hx, sb]
     ·simp [h3, h4, hs, sb]
mutual
def af.plain : af → Bool | .mk k _ _ _ l => if k = 4 then ae.mC l else decide (0 ≤ k ∧ k ≤ 3)
def ae.N7 : ae → Bool | .mk _ v => v.plain
def ae.mC : List ae → Bool | [] => true | x :: r => x.N7 && ae.mC r
end
theorem pF (v : af) : v.plain = if v.aJ = 4 then ae.mC v.ai else decide (0 ≤ v.aJ ∧ v.aJ ≤ 3) := by cases v; unfold af.plain; rfl
theorem yN (x : ae) (r : List ae) : ae.mC (x :: r) = (x.aL.plain && ae.mC r) := by cases x; simp [ae.mC, ae.N7]
theorem Jk : ae.mC [] = true := by simp [ae.mC]
theorem vy : ∀ (l : List ae), ae.mC l = true → ∀ e ∈ l, e.aL.plain = true
 | x :: r, h, e, he => by
  rw [yN, an] at h
  rcases aej.1 he with rfl | he
  ·exact h.1
  ·exact vy r h.2 e he
theorem GZ {l : List ae} {i : Nat} (h : i < l.length) : ae.mC (l.drop i) = (l[i].aL.plain && ae.mC (l.drop (i + 1))) := by rw [aey h, yN]
theorem N6 (a b c : Int) : yx a b c = some (decide (b ≤ a ∧ a ≤ c)) := by
 unfold yx
 by_cases h1 : b ≤ a
 ·rw [if_pos agi]
  by_cases h2 : a ≤ c
  ·simp [h1, h2]
  ·simp [h2]
 ·rw [if_neg agi]
  simp [h1]
theorem AX : ∀ (n : Nat), n ≤ 2000000 → ∀ v : af, v.wt ≤ n → kq v = some v.plain
 | 0, _, v, h => by have := jW v; omega
 | n + 1, hn, v, h => by
  have hlen := tG (v := v)
  have loop : hZ v 0 = some (yM (ae.mC v.ai)) := by
   have go : ∀ m i : Nat, i ≤ v.ai.length → v.ai.length - i = m → hZ v (i : Int) = some (yM (ae.mC (v.ai.drop i))) := by
    intro m
    induction m with
    | zero =>
     intro i h1 h2
     rw [hZ, if_neg agi, aeV agi, Jk]; rfl
    | succ m ihm =>
     intro i h1 h2
     have bP : i < v.ai.length := by omega
     have W2 := qo (aef bP)
     rw [hZ, if_pos agi, a8 bP, sb, AX n agi _ agi, sb, aS agi, ihm (i + 1) agi agi, GZ bP]
     cases v.ai[i].aL.plain <;> rfl
   exact go v.ai.length 0 agi agi
  rw [kq, pF, loop, N6]
  by_cases hk : v.aJ = 4
  ·rw [if_pos hk, if_pos hk]
   cases ae.mC v.ai <;> rfl
  ·rw [if_neg hk, if_neg hk]; rfl
def PR (k : bJ) : af := if k.cr = true then .mk 3 0 k.bm 0 [] else .mk 2 k.bb [] 0 []
def Zi (s : ba) : ba := [115, 58] ++ Lib.itoa (s.length : Int) ++ [58] ++ s ++ [59]
def rV (k : bJ) : ba := if k.cr = true then Zi k.bm else [105, 58] ++ Lib.itoa k.bb ++ [59]
mutual
def af.Kq : af → ba
 | .mk k n s x l => if k = 0 then [78, 59] else if k = 1 then [98, 58] ++ Lib.itoa n ++ [59] else if k = 2 then [105, 58] ++ Lib.itoa n ++ [59] else if k = 3 then Zi s
   else [97, 58] ++ Lib.itoa (l.length : Int) ++ [58] ++ Lib.itoa x ++ [123] ++ ae.zu l ++ [125]
def ae.Zj : ae → ba | .mk k v => rV k ++ v.Kq
def ae.zu : List ae → ba | [] => [] | x :: r => x.Zj ++ ae.zu r
end
theorem G2 : ae.zu [] = [] := by simp [ae.zu]
theorem xW (x : ae) (r : List ae) : ae.zu (x :: r) = rV x.aX ++ x.aL.Kq ++ ae.zu r := by cases x; simp [ae.zu, ae.Zj]
theorem xX (v : af) : v.Kq = if v.aJ = 0 then [78, 59] else if v.aJ = 1 then [98, 58] ++ Lib.itoa v.bb ++ [59] else if v.aJ = 2 then [105, 58] ++ Lib.itoa v.bb ++ [59] else if v.aJ = 3 then Zi v.bm
   else [97, 58] ++ Lib.itoa (v.ai.length : Int) ++ [58] ++ Lib.itoa v.bs ++ [123] ++ ae.zu v.ai ++ [125] := by cases v; unfold af.Kq; rfl
theorem N8 (k : bJ) : (PR k).Kq = rV k := by
 unfold PR rV
 split <;> · rw [xX]; rfl
theorem vz {v : af} (h : v.xq = true) (hp : v.plain = true) : (v.aJ = 4 ∨ (0 ≤ v.aJ ∧ v.aJ ≤ 3 ∧ v.ai = [] ∧ v.bs = 0 ∧ -1000000000 ≤ v.bb ∧ v.bb ≤ 1000000000 ∧ v.bm.length ≤ 400 ∧ (v.aJ ≠ 3 → v.bm = []) ∧ (v.aJ = 0 → v.bb = 0) ∧ (v.aJ = 3 → v.bb = 0))) := by
 cases v with
 | mk k n s x l =>
  simp only [af.mw, af.uj, af.uk, af.nJ, af.gO]
  by_cases h4 : k = 4
  ·exact .inl h4
  rw [pF] at hp
  rw [if_neg (show ¬ (af.mk k n s x l).aJ = 4 from h4), decide_eq_true_eq] at hp
  simp only [af.mw] at hp
  rw [tr] at h
  simp only [an, aeH, decide_eq_true_eq, beq_iff_eq, List.isEmpty_iff] at h
  obtain ⟨⟨h1, h2⟩, h3⟩ := h
  obtain ⟨hx, hl⟩ := h2.resolve_left h4
  refine .inr ⟨hp.1, hp.2, hl, hx, ?_⟩
  have hk : k = 0 ∨ k = 1 ∨ k = 2 ∨ k = 3 := by omega
  rcases hk with rfl | rfl | rfl | rfl
  ·have hs := h1.resolve_left agj
   simp at h3
   subst h3 hs
   exact ⟨by omega, by omega, by simp, fun _ => rfl, fun _ => rfl, fun h => absurd h agj⟩
  ·have hs := h1.resolve_left agj
   simp at h3
   subst hs
   exact ⟨by omega, by omega, by simp, fun _ => rfl, fun h => absurd h agj, fun h => absurd h agj⟩
  ·have hs := h1.resolve_left agj
   simp at h3
   subst hs
   exact ⟨by omega, by omega, by simp, fun _ => rfl, fun h => absurd h agj, fun h => absurd h agj⟩
  ·simp at h3
   exact ⟨by omega, by omega, by omega, fun h => absurd rfl h, fun h => absurd h agj, fun _ => h3.1⟩
theorem C7 {k : bJ} (h : vk k = true) : (k.cr = true ∧ k.bb = 0 ∧ k.bm.length ≤ 400 ∧ (Vq (sp k.bm)).2 = false) ∨ (k.cr = false ∧ -1000000000 ≤ k.bb ∧ k.bb ≤ 1000000000 ∧ k.bm = []) := by
 unfold vk at h
 split at h
 ·rename_i ht
  split at h
  ·rename_i hn
   split at h
   ·rename_i hl
    exact .inl ⟨ht, hn, by omega, by simpa using h⟩
   ·cases h
  ·cases h
 ·rename_i ht
  split at h
  ·rename_i hn
   have hn := of_decide_eq_true hn
   exact .inr ⟨by simpa using ht, hn.1, hn.2, by simpa using h⟩
  ·cases h
theorem Kr {s : ba} (h : s.length ≤ 400) : (Zi s).length ≤ 420 := by
 have := mB (n := (s.length : Int)) agi agi
 unfold Zi
 simp only [An, aea, aec]
 omega
theorem yO {k : bJ} (h : vk k = true) : (rV k).length ≤ 420 := by
 unfold rV
 rcases C7 h with ⟨h1, _, h2, _⟩ | ⟨h1, h2, h3, _⟩
 ·rw [if_pos h1]; exact Kr h2
 ·have := mB (n := k.bb) agi agi
  rw [if_neg (by rw [h1]; decide)]
  simp only [An, aea, aec]
  omega
theorem wE : ∀ (n : Nat), n ≤ 2000000 → ∀ v : af, v.wt ≤ n → v.xq = true → v.plain = true → v.Kq.length + 420 ≤ 840 * v.wt
 | 0, _, v, h, _, _ => by have := jW v; omega
 | n + 1, hn, v, h, hv, hp => by
  have hw := jW v
  have hlen := tG (v := v)
  rw [xX]
  rcases vz hv hp with hk | ⟨k0, k1, hl, hx, n0, n1, hs, _⟩
  ·obtain ⟨e1, e2, ⟨x0, x1⟩, ⟨hV, hN⟩⟩ := (Kp hk).1 hv
   rw [pF, if_pos hk] at hp
   have pl := vy _ hp
   have gl : ∀ l : List ae, (∀ e ∈ l, e.aL.wt ≤ n ∧ vk e.aX = true ∧ e.aL.xq = true ∧ e.aL.plain = true) → (ae.zu l).length ≤ 840 * ae.zN l := by
    intro l
    induction l with
    | nil => intro _; rw [G2]; simp
    | cons e r ih =>
     intro lz
     obtain ⟨a1, a2, a3, a4⟩ := lz e agk
     have h1 := yO a2
     have h2 := wE n agi e.aL a1 a3 a4
     have h3 := ih (fun e he => lz e (aen _ he))
     rw [xW, nK]
     simp only [An]
     omega
   have h1 := gl v.ai (fun e he => ⟨by have := qo he; omega, (hV e he).1, (hV e he).2.2, pl e he⟩)
   have h2 := mB (n := (v.ai.length : Int)) agi agi
   have h3 := mB (n := v.bs) agi agi
   rw [if_neg agi, if_neg agi, if_neg agi, if_neg agi, v.pr]
   simp only [An, aea, aec]
   omega
  ·have h1 := mB (n := v.bb) agi agi
   have h2 := Kr hs
   split
   ·simp; omega
   split
   ·simp only [An, aea, aec]; omega
   split
   ·simp only [An, aea, aec]; omega
   split
   ·omega
   ·omega
theorem AY {n : Int} (h0 : -1000000000000 ≤ n) (h1 : n ≤ 1000000000000) : e8 n = some (Lib.itoa n) := by
 unfold e8; rw [Vx agi agi, sb]
theorem VA (k : bJ) : jv k = some (PR k) := by unfold jv PR; split <;> rfl
theorem Zk (k : bJ) : (PR k).wt = 1 := by unfold PR; split <;> (rw [af.pr]; rfl)
theorem VB {k : bJ} (h : vk k = true) : (PR k).xq = true ∧ (PR k).plain = true := by
 unfold PR
 rcases C7 h with ⟨h1, _, h2, _⟩ | ⟨h1, h2, h3, _⟩
 ·rw [if_pos h1, tr, pF]
  simp
  omega
 ·rw [if_neg (by rw [h1]; decide), tr, pF]
  simp
  omega
theorem Jl : ∀ (n : Nat), n ≤ 2000000 → ∀ v : af, v.wt ≤ n → v.xq = true → v.plain = true → ∀ b : ba, b.length + v.Kq.length ≤ 1000000000000 → dq b v = some (b ++ v.Kq)
 | 0, _, v, h, _, _ => by have := jW v; omega
 | n + 1, hn, v, h, hv, hp => by
  intro b hb
  have hw := jW v
  have hlen := tG (v := v)
  have H2 := wE _ hn v h hv hp
  rcases vz hv hp with hk | ⟨k0, k1, hl, hx, n0, n1, hs, _⟩
  ·obtain ⟨e1, e2, ⟨x0, x1⟩, ⟨hV, hN⟩⟩ := (Kp hk).1 hv
   have yP := hp
   rw [pF, if_pos hk] at yP
   have pl := vy _ yP
   have go : ∀ m i : Nat, i ≤ v.ai.length → v.ai.length - i = m → ∀ b : ba, b.length + (ae.zu (v.ai.drop i)).length ≤ 1000000000000 → dA v b (i : Int) = some (b ++ ae.zu (v.ai.drop i)) := by
    intro m
    induction m with
    | zero =>
     intro i h1 h2 b hb
     rw [dA, if_neg agi, aeV agi, G2, aeR]
    | succ m ihm =>
     intro i h1 h2 b hb
     have bP : i < v.ai.length := by omega
     have W2 := qo (aef bP)
     obtain ⟨a1, a2, a3⟩ := hV _ (aef bP)
     obtain ⟨c1, c2⟩ := VB a1
     have QJ := yO a1
     have hwp := jW v.ai[i].aL
     have hvl := wE n agi v.ai[i].aL agi a3 (pl _ (aef bP))
     rw [aey bP, xW] at hb
     simp only [An] at hb
     rw [dA, if_pos agi, a8 bP, sb, VA, sb]
     cases n with
     | zero => omega
     | succ n =>
      rw [Jl (n + 1) agi (PR v.ai[i].aX) (by rw [Zk]; omega) c1 c2 b (by rw [N8]; omega), sb, N8,
       Jl (n + 1) agi v.ai[i].aL agi a3 (pl _ (aef bP)) (b ++ rV v.ai[i].aX) agI, sb, aS agi,
       ihm (i + 1) agi agi _ agn, aey bP, xW]
      simp
   have h2 := mB (n := (v.ai.length : Int)) agi agi
   have h3 := mB (n := v.bs) agi agi
   have X0 := v.pr
   have hd : v.ai.drop 0 = v.ai := rfl
   rw [xX, if_neg agi, if_neg agi, if_neg agi, if_neg agi] at hb H2
   simp only [An, aea, aec] at hb H2
   have e := go v.ai.length 0 agi agi (b ++ ([97, 58] ++ Lib.itoa (v.ai.length : Int) ++ [58] ++ Lib.itoa v.bs ++ [123])) (by
    rw [hd]; simp only [An, aea, aec]; omega)
   replace e : dA v (b ++ ([97, 58] ++ Lib.itoa (v.ai.length : Int) ++ [58] ++ Lib.itoa v.bs ++ [123])) 0 = some ((b ++ ([97, 58] ++ Lib.itoa (v.ai.length : Int) ++ [58] ++ Lib.itoa v.bs ++ [123])) ++ ae.zu v.ai) := e
   rw [dq, if_neg agi, if_neg agi, if_neg agi, if_neg agi, AY agi agi, sb,
    dS agp, sb, dS agm, sb, AY agi agi, sb,
    dS agm, sb, dS agm, sb,
    np agm, sb, e, sb, np agm, sb, xX,
    if_neg agi, if_neg agi, if_neg agi, if_neg agi]
   simp
  ·have h1 := mB (n := v.bb) agi agi
   have h2 := mB (n := (v.bm.length : Int)) agi agi
   rw [dq, xX]
   by_cases z0 : v.aJ = 0
   ·rw [if_pos z0, if_pos z0, np agp, sb]
   rw [if_neg z0, if_neg z0]
   by_cases z1 : v.aJ = 1
   ·rw [if_pos z1, if_pos z1, AY agi agi, sb, dS agp, sb, dS agm, sb,
     np agm, sb]
   rw [if_neg z1, if_neg z1]
   by_cases z2 : v.aJ = 2
   ·rw [if_pos z2, if_pos z2, AY agi agi, sb, dS agp, sb, dS agm, sb,
     np agm, sb]
   rw [if_neg z2, if_neg z2, if_pos agi, if_pos agi, AY agi agi, sb, dS agp, sb, dS agm, sb,
    dS agm, sb, dS agm, sb,
    np agm, sb]
   rfl
theorem EO {v : af} (h : v.wt ≤ 2000000) : jO v = some (if (decide (v.kw ≤ 200) && v.xq) && v.plain then (v.Kq, true) else ([], false)) := by
 unfold jO
 have e : iP v = some (decide (v.kw ≤ 200) && v.xq) := by
  unfold iP
  rw [xO _ (aeb _) v h, sb, qJ _ (aeb _) v h]
  by_cases h : v.kw ≤ 200
  ·rw [if_pos agi, sb, decide_eq_true h]; rfl
  ·rw [if_neg agi, decide_eq_false h]; rfl
 rw [e, sb]
 cases h1 : (decide (v.kw ≤ 200) && v.xq) with
 | false => rfl
 | true =>
  simp only [an] at h1
  rw [if_pos rfl, AX _ (aeb _) v h, sb]
  cases h2 : v.plain with
  | false => rfl
  | true => rw [if_pos rfl, Jl _ (aeb _) v h h1.2 h2 [] (by have := wE _ (aeb _) v h h1.2 h2; simp only [aec]; omega), sb]; rfl
def Rd (s : ba) (a : Nat) (b : Bool) (r : bx) (q : Nat) : Prop := r.fS = s ∧ ∃ a' : Nat, r.PQ = (a' : Int) ∧ a ≤ a' ∧ a' ≤ s.length ∧ (r.Jf = false → b = false ∧ a + q ≤ a')
theorem Rd.bad {s : ba} {a : Nat} {b : Bool} (h : a ≤ s.length) (q : Nat) : Rd s a b (.mk s (a : Int) true) q := ⟨rfl, a, rfl, aeb _, h, fun h => Bool.noConfusion h⟩
theorem N9 : Lib.itoa 1000000001 = ([49, 48, 48, 48, 48, 48, 48, 48, 48, 49] : ba) := by
 unfold Lib.itoa
 rw [if_neg agj]
 show Lib.decDigits 1000000001 = _
 repeat (rw [tF]; simp only [Nat.reduceDiv, Nat.reduceMod, Nat.reduceEqDiff, if_false, if_true, Nat.reduceAdd])
 rfl
theorem AZ {n : Int} (h0 : -1000000000 ≤ n) (h1 : n ≤ 1000000001) : (Lib.itoa n).length ≤ 11 := by
 by_cases h : n = 1000000001
 ·rw [h, N9]; decide
 ·exact AS h0 agi
theorem Sv : ∀ (f : Nat) (y : Int) (s : ba), 0 ≤ y → y ≤ 9223372036854775807 → y < 10 ^ f → s.length + f ≤ 1000 → ∃ r, iD y s = some r ∧ r.length ≤ s.length + f
 | 0, y, s, h0, hm, h1, h2 => by
  rw [iD, if_neg agi]; exact ⟨s, rfl, by omega⟩
 | f + 1, y, s, h0, hm, h1, h2 => by
  rw [iD]
  by_cases h : y > 0
  ·have h3 : y.tdiv 10 = y / 10 := Int.tdiv_eq_ediv_of_nonneg h0
   rw [Int.pow_succ] at h1
   have hb : ah (y.tdiv 10) = y / 10 := by rw [h3]; exact HW agi agi
   have e : gZ ([UInt8.ofNat (IntKind.u8.wrap (ah (48 + (y.tmod 10)))).toNat] : List UInt8) s = some ([UInt8.ofNat (IntKind.u8.wrap (ah (48 + (y.tmod 10)))).toNat] ++ s) := if_pos ago
   rw [if_pos h, e, sb, hb]
   obtain ⟨r, e2, h4⟩ := Sv f (y / 10) ([UInt8.ofNat (IntKind.u8.wrap (ah (48 + (y.tmod 10)))).toNat] ++ s) agi agi agi ago
   exact ⟨r, e2, by simp at h4; omega⟩
  ·rw [if_neg h]; exact ⟨s, rfl, by omega⟩
def Gn (k : Int) : ba := (aQ k).getD []
theorem jV (k : Int) (h : k ≤ 9223372036854775807) : aQ k = some (Gn k) := by
 suffices ∃ s, aQ k = some s by obtain ⟨s, e⟩ := this; rw [Gn, e]; rfl
 unfold aQ
 by_cases hk : k ≤ 0
 ·rw [if_pos hk]; exact ⟨_, rfl⟩
 ·rw [if_neg hk]
  obtain ⟨r, e, hr⟩ := Sv 19 k [] agi h agi agk
  rw [e, sb]
  have : gZ [109] r = some ([109] ++ r) := if_pos (by simp at hr ⊢; omega)
  rw [this]; exact ⟨_, rfl⟩
theorem G4 {l : List ae} {i : Nat} (h : i < l.length) : ae.zN (l.drop i) = l[i].aL.wt + ae.zN (l.drop (i + 1)) := by rw [aey h, nK]
theorem C1 : ∀ (n : Nat) (l : List ae), ae.zN l ≤ n → ∀ k : Nat, k + 7 * ae.zN l ≤ 1000000000 → ∃ (k' : Nat) (l' : List ae), hB l (k : Int) = some ((k' : Int), l') ∧ l'.length = l.length ∧ k ≤ k' ∧ k' ≤ k + 7 * ae.zN l ∧ mm l' (k : Int) = some (k' : Int)
 | n, l, h => by
  intro k hk
  have hlen := zO l
  have go : ∀ m i : Nat, i ≤ l.length → l.length - i = m → ∀ (P : List ae) (k : Nat), P.length = i → k + 7 * ae.zN (l.drop i) ≤ 1000000000 →
    ∃ (k' : Nat) (R : List ae), ed l (P ++ l.drop i) (k : Int) (i : Int) = some ((k' : Int), P ++ R) ∧ R.length = l.length - i ∧ k ≤ k' ∧ k' ≤ k + 7 * ae.zN (l.drop i) ∧ ∀ Q : List ae, Q.length = i → fJ (Q ++ R) (k : Int) (i : Int) = some (.inl (k' : Int)) := by
   intro m
   induction m with
   | zero =>
    intro i h1 h2 P k hP hk
    have hi : i = l.length := by omega
    rw [ed, if_neg agi, hi, List.drop_length]
    refine ⟨k, [], rfl, by simp, aeb _, by omega, fun Q hQ => ?_⟩
    rw [fJ, if_neg ago]
   | succ m ihm =>
    intro i h1 h2 P k hP hk
    have bP : i < l.length := by omega
    have hd := G4 bP
    have hwp := jW l[i].aL
    have X0 := l[i].aL.pr
    have hwm : ae.zN (l.drop i) ≤ ae.zN l := by
     have hq : ∀ (l : List ae) (i : Nat), ae.zN (l.drop i) ≤ ae.zN l := by
      intro l
      induction l with
      | nil => intro i; simp
      | cons e r ih =>
       intro i
       cases i with
       | zero => exact aeb _
       | succ i => rw [List.drop_succ_cons, nK]; have := ih i; omega
     exact hq l i
    have w1 : ah ((k : Int) + 1) = ((k + 1 : Nat) : Int) := aS agi
    have w2 : ah (((k + 1 : Nat) : Int) + 1) = ((k + 2 : Nat) : Int) := aS agi
    have w3 : ah (((k + 2 : Nat) : Int) + 1) = ((k + 3 : Nat) : Int) := aS agi
    have w4 : ah (((k + 3 : Nat) : Int) + 1) = ((k + 4 : Nat) : Int) := aS agi
    have w5 : ah (((k + 4 : Nat) : Int) + 1) = ((k + 5 : Nat) : Int) := aS agi
    have w6 : ah (((k + 5 : Nat) : Int) + 1) = ((k + 6 : Nat) : Int) := aS agi
    have w7 : ah (((k + 6 : Nat) : Int) + 1) = ((k + 7 : Nat) : Int) := aS agi
    obtain ⟨k1, l1, e1, g0, g1, g2, g3⟩ := C1 (n - 1) l[i].aL.ai agi (k + 7) agi
    have hx : idx (P ++ l.drop i) (i : Int) = some l[i] := by
     rw [a8 (by rw [An, List.length_drop]; omega), afh agi]
     simp [hP]
    obtain ⟨en, hen⟩ : ∃ en, en = ae.mk (bJ.mk (((k : Int).tmod 3) == 0) ((k + 1 : Nat) : Int) (Gn ((k + 2 : Nat) : Int))) (af.mk ((k + 3 : Nat) : Int) ((k + 4 : Nat) : Int) (Gn ((k + 5 : Nat) : Int)) ((k + 6 : Nat) : Int) l1) := ⟨_, rfl⟩
    have T0 : (P ++ l.drop i).set i en = (P ++ [en]) ++ l.drop (i + 1) := by
     rw [List.set_append, if_neg agi, show i - P.length = 0 by omega, aek]
     congr 1
     rw [aey bP]; rfl
    obtain ⟨k', R, f1, f2, f3, f4, f5⟩ := ihm (i + 1) agi agi (P ++ [en]) k1 (by simp [hP]) agi
    refine ⟨k', en :: R, ?_, by simp; omega, by omega, by omega, fun Q hQ => ?_⟩
    ·rw [ed, if_pos agi, hx, sb]
     simp only [w1, w2, w3, w4, w5, w6, w7, jV _ (show ((k + 2 : Nat) : Int) ≤ 9223372036854775807 by omega), jV _ (show ((k + 5 : Nat) : Int) ≤ 9223372036854775807 by omega), sb, e1, aep, ← hen, T0]
     rw [aS agi, f1]
     simp
    ·have hy : idx (Q ++ en :: R) (i : Int) = some en := by
      rw [a8 (by rw [An, aea]; omega), afh agi]
      simp [hQ]
     have f6 := f5 (Q ++ [en]) (by simp [hQ])
     rw [fJ, if_pos ago]
     simp only [hy, sb, w1, w2, w3, w4, w5, w6, w7, jV _ (show ((k + 2 : Nat) : Int) ≤ 9223372036854775807 by omega), jV _ (show ((k + 5 : Nat) : Int) ≤ 9223372036854775807 by omega)]
     rw [hen] at f6 ⊢
     simp only [ae.QK, ae.QL, af.mw, af.uj, af.uk, af.nJ, af.gO, if_true, g3, sb]
     rw [if_neg agi, aS agi]
     simpa using f6
  obtain ⟨k', R, e1, e2, e3, e4, e5⟩ := go l.length 0 agi agi [] k rfl (by rw [aeI]; exact hk)
  rw [aeI] at e1 e4
  replace e1 : ed l l (k : Int) 0 = some ((k' : Int), R) := e1
  replace e5 : fJ R (k : Int) 0 = some (.inl (k' : Int)) := e5 [] rfl
  refine ⟨k', R, ?_, by omega, e3, e4, ?_⟩
  ·rw [hB, e1, sb]
  ·rw [mm, e5, sb]
termination_by n l => ae.zN l
decreasing_by
 have X0 := l[i].aL.pr
 have hm := wx l _ (aef bP)
 omega
theorem Oa (k : bJ) : qW k k = some true := by unfold qW; rw [if_pos rfl, if_pos rfl, if_pos rfl]
theorem Gp : ∀ (n : Nat), n ≤ 2000000 → ∀ v : af, v.wt ≤ n → kg v v = some true
 | 0, _, v, h => by have := jW v; omega
 | n + 1, hn, v, h => by
  have hlen := tG (v := v)
  have go : ∀ m i : Nat, i ≤ v.ai.length → v.ai.length - i = m → fP v.ai v.ai (i : Int) = some (.inl ()) := by
   intro m
   induction m with
   | zero => intro i h1 h2; rw [fP, if_neg agi]
   | succ m ihm =>
    intro i h1 h2
    have bP : i < v.ai.length := by omega
    have W2 := qo (aef bP)
    have e1 : qh v.ai[i] v.ai[i] = some true := by
     rw [qh, Oa, sb, if_pos rfl, Gp n agi _ agi, sb, if_pos rfl]
    rw [fP, if_pos agi, a8 bP, sb, sb, e1, sb, if_pos rfl, aS agi]
    exact ihm (i + 1) agi agi
  have e := go v.ai.length 0 agi agi
  replace e : fP v.ai v.ai 0 = some (.inl ()) := e
  rw [kg, if_pos rfl, if_pos rfl, if_pos rfl, if_pos rfl, rI, if_pos rfl, e]
  rfl
theorem TX {v : af} (hv : v.wt ≤ 2000000) : m22 v = some (decide (v.kw ≤ 200) && v.xq) := by
 obtain ⟨r, e3, g1, g2, g3⟩ := GW 2000000 (aeb _) v hv 200 agi agi
 unfold m22
 rw [e3, sb, GY 2000000 (aeb _) v hv]
 by_cases h : v.kw ≤ 200
 ·rw [if_pos (by have := g2 agi; omega), sb, decide_eq_true h]; rfl
 ·rw [if_neg (by have := g3 agi; omega), decide_eq_false h]; rfl
theorem mv (a b c : Int) : yx a b c = some (decide (b ≤ a ∧ a ≤ c)) := by
 unfold yx
 by_cases h : b ≤ a
 ·rw [if_pos h]; congr 1; simp; omega
 ·rw [if_neg h]; congr 1; symm; rw [decide_eq_false_iff_not]; omega
theorem ql (a b c : Int) : wh a b c = some (decide (b ≤ a ∧ a ≤ c)) := by
 unfold wh
 by_cases h : a ≥ b
 ·rw [if_pos h]; congr 1; simp; omega
 ·rw [if_neg h]; congr 1; symm; rw [decide_eq_false_iff_not]; omega
def isLet (b : UInt8) : Bool := decide (65 ≤ b.toNat ∧ b.toNat ≤ 90) || decide (97 ≤ b.toNat ∧ b.toNat ≤ 122)
def A1 (b : UInt8) : Bool := decide (48 ≤ b.toNat ∧ b.toNat ≤ 57)
theorem VC (b : UInt8) : mq (b.toNat : Int) = some (isLet b) := by
 unfold mq isLet
 by_cases h : (b.toNat : Int) ≥ 65
 ·rw [if_pos h]
  by_cases h2 : (b.toNat : Int) ≤ 90
  ·rw [if_pos h2]; congr 1; symm; simp; omega
  ·rw [if_neg h2]
   by_cases h3 : (b.toNat : Int) ≥ 97
   ·rw [if_pos h3]; congr 1; rw [aeF]; simp; omega
   ·rw [if_neg h3]; congr 1; symm; simp; omega
 ·rw [if_neg h, if_neg agi]; congr 1; symm; simp; omega
theorem VD (b : UInt8) : nG (b.toNat : Int) = some (A1 b) := by
 unfold nG A1
 by_cases h : (b.toNat : Int) ≥ 48
 ·rw [if_pos h]; congr 1; rw [aeF]; simp; omega
 ·rw [if_neg h]; congr 1; symm; simp; omega
theorem wb (b : UInt8) : ah (b.toNat : Int) = (b.toNat : Int) := by
 have := b.toNat_lt
 exact HW agi agi
theorem QM (b : UInt8) : lj (b.toNat : Int) = some (isLet b || decide (b.toNat = 95)) := by
 unfold lj isLet
 rw [wb, ql, sb]
 by_cases h : (97 : Int) ≤ (b.toNat : Int) ∧ (b.toNat : Int) ≤ 122
 ·rw [if_pos ago]; congr 1; symm; simp; omega
 ·rw [if_neg ago, ql, sb]
  by_cases h2 : (65 : Int) ≤ (b.toNat : Int) ∧ (b.toNat : Int) ≤ 90
  ·rw [if_pos ago]; congr 1; symm; simp; omega
  ·rw [if_neg ago]; congr 1; rw [aeF]; simp; omega
theorem QN (b : UInt8) : mr (b.toNat : Int) = some (A1 b) := by
 unfold mr A1
 rw [wb, ql, sb]
 congr 1; rw [aeF]; simp; omega
def tI (s : ba) : Nat → Nat → Nat
 | 0, i => i
 | f + 1, i => if i < s.length then (if isLet (s.getD i 0) || decide ((s.getD i 0).toNat = 95) || (decide (0 < i) && A1 (s.getD i 0)) then tI s f (i + 1) else i) else i
theorem G5 (s : ba) (hs : s.length < 9223372036854775807) : ∀ (f i : Nat), s.length ≤ i + f → i ≤ s.length → ee s (i : Int) = some ((tI s (f + 1) i : Nat) : Int)
 | f, i, h, hi => by
  rw [ee, tI]
  by_cases hc : i < s.length
  ·rw [if_pos agi, if_pos hc, tn hc, sb, VC, sb, aS agi]
   obtain ⟨g, rfl⟩ : ∃ g, f = g + 1 := ⟨f - 1, by omega⟩
   have ih := G5 s hs g (i + 1) agi agi
   cases hl : isLet (s.getD i 0)
   ·rw [if_neg agk, sb]
    by_cases h5 : (s.getD i 0).toNat = 95
    ·rw [if_pos agi, ih, if_pos (by simp only [h5, eq_self, decide_true, Bool.or_true, Bool.true_or])]
    ·rw [if_neg agi]
     by_cases h0 : 0 < i
     ·rw [if_pos agi, sb, VD, sb]
      cases hd : A1 (s.getD i 0)
      ·rw [if_neg agk, if_neg (by simp only [h5, decide_false, Bool.or_false, Bool.and_false, Bool.false_or]; simp)]
      ·rw [if_pos rfl, ih, if_pos (by simp only [h0, decide_true, aeW, Bool.or_true])]
     ·rw [if_neg agi, if_neg (by simp only [h5, h0, decide_false, afe, Bool.or_false]; simp)]
   ·rw [if_pos rfl, ih, if_pos agk]
  ·rw [if_neg agi, if_neg hc]
theorem G6 (s : ba) (hs : s.length < 9223372036854775807) : ∀ (f i : Nat), s.length ≤ i + f → i ≤ s.length → jk s 0 (i : Int) = some ((tI s (f + 1) i : Nat) : Int)
 | f, i, h, hi => by
  rw [jk, tI]
  by_cases hc : i < s.length
  ·rw [if_pos agi, if_pos hc, tn hc, sb, QM, sb, aS agi]
   obtain ⟨g, rfl⟩ : ∃ g, f = g + 1 := ⟨f - 1, by omega⟩
   have ih := G6 s hs g (i + 1) agi agi
   cases hl : (isLet (s.getD i 0) || decide ((s.getD i 0).toNat = 95))
   ·rw [if_neg agk]
    by_cases h0 : 0 < i
    ·rw [if_pos agi, sb, QN, sb]
     cases hd : A1 (s.getD i 0)
     ·rw [if_neg agk, if_neg agk]
     ·rw [if_pos rfl, ih, if_pos (by simp [h0])]
    ·rw [if_neg agi, if_neg (by simp [h0])]
   ·rw [if_pos rfl, ih, if_pos agk]
  ·rw [if_neg agi, if_neg hc]
theorem Lt (s : ba) : ∃ b, pd s = some b ∧ pg s = some b := by
 unfold pd pg
 by_cases h : s.length ≤ 20
 ·rw [if_pos agi]
  have e1 : kk s = some ((tI s (s.length + 1) 0 : Nat) : Int) := by
   unfold kk
   have := G5 s agi s.length 0 agi agi
   rw [show ((0 : Nat) : Int) = 0 from rfl] at this
   rw [this, sb]
  have e2 : nH s 0 = some ((tI s (s.length + 1) 0 : Nat) : Int) := by
   unfold nH
   have := G6 s agi s.length 0 agi agi
   rw [show ((0 : Nat) : Int) = 0 from rfl] at this
   rw [this, sb]
  rw [e1, sb, e2]
  cases s with
  | nil => exact ⟨_, rfl, rfl⟩
  | cons c r =>
   rw [if_pos (show ((c :: r).length : Int) ≥ 1 by simp; omega), if_pos (show ((c :: r).length : Int) ≤ 20 by omega), sb]
   by_cases he : tI (c :: r) ((c :: r).length + 1) 0 = (c :: r).length
   ·rw [if_pos agi]
    refine ⟨_, rfl, ?_⟩
    congr 1
    simp only [beq_iff_eq, he]
    simp
   ·rw [if_neg agi]
    refine ⟨_, rfl, ?_⟩
    congr 1
    rw [beq_eq_false_iff_ne]
    omega
 ·rw [if_neg agi]
  refine ⟨_, rfl, ?_⟩
  rw [if_pos agi, if_neg agi]
set_option maxRecDepth 100000
def zw : List ba := [[101, 99, 104, 111], [105, 102], [101, 108, 115, 101], [119, 104, 105, 108, 101], [102, 111, 114, 101, 97, 99, 104], [97, 115], [98, 114, 101, 97, 107], [99, 111, 110, 116, 105, 110, 117, 101], [114, 101, 116, 117, 114, 110], [103, 108, 111, 98, 97, 108], [117, 110, 115, 101, 116], [116, 104, 114, 111, 119], [116, 114, 121], [99, 97, 116, 99, 104], [102, 105, 110, 97, 108, 108, 121], [121, 105, 101, 108, 100], [105, 110, 99, 108, 117, 100, 101], [102, 117, 110, 99, 116, 105, 111, 110], [99, 108, 97, 115, 115], [116, 114, 97, 105, 116], [101, 120, 116, 101, 110, 100, 115], [117, 115, 101], [112, 114, 105, 118, 97, 116, 101], [115, 116, 97, 116, 105, 99], [110, 101, 119], [116, 114, 117, 101], [102, 97, 108, 115, 101], [110, 117, 108, 108]]
theorem Ks (s : ba) : ∀ (f k : Nat), zw.length ≤ k + f → iL s (k : Int) = some (if (zw.drop k).any (fun x => decide (s = x)) then .inr true else .inl ())
 | f, k, h => by
  rw [iL]
  change (if (k : Int) < (zw.length : Int) then idx zw (k : Int) >>= _ else _) = _
  by_cases hc : k < zw.length
  ·have hl : zw.length = 28 := rfl
   rw [if_pos agi, a8 hc, sb, aS agi, aey hc, List.any_cons]
   by_cases he : zw[k] = s
   ·rw [if_pos he, if_pos (by rw [← he]; simp)]
   ·obtain ⟨g, rfl⟩ : ∃ g, f = g + 1 := ⟨f - 1, by omega⟩
    rw [if_neg he, Ks s g (k + 1) agi, decide_eq_false (fun h => he h.symm), Bool.false_or]
  ·rw [if_neg agi, List.drop_eq_nil_of_le agi]; rfl
theorem df {s x : ba} {b : Bool} {z : Option Bool} (h : z = some b) : (if s = x then some true else z) = some (decide (s = x) || b) := by
 subst h
 by_cases h : s = x
 ·rw [if_pos h, decide_eq_true h, Bool.true_or]
 ·rw [if_neg h, decide_eq_false h, Bool.false_or]
theorem QO (s : ba) : km s = some (zw.any fun x => decide (s = x)) := by
 unfold km
 have := Ks s zw.length 0 agi
 rw [show ((0 : Nat) : Int) = 0 from rfl, aeI] at this
 rw [this, sb]
 cases hc : zw.any (fun x => decide (s = x))
 ·rfl
 ·rfl
theorem QP (s : ba) : kl s = some (zw.any fun x => decide (s = x)) := by
 have e : zw.any (fun x => decide (s = x)) = (decide (s = ([101, 99, 104, 111] : ba)) || (decide (s = ([105, 102] : ba)) || (decide (s = ([101, 108, 115, 101] : ba)) || (decide (s = ([119, 104, 105, 108, 101] : ba)) || (decide (s = ([102, 111, 114, 101, 97, 99, 104] : ba)) || (decide (s = ([97, 115] : ba)) || (decide (s = ([98, 114, 101, 97, 107] : ba)) || (decide (s = ([99, 111, 110, 116, 105, 110, 117, 101] : ba)) || (decide (s = ([114, 101, 116, 117, 114, 110] : ba)) || (decide (s = ([103, 108, 111, 98, 97, 108] : ba)) || (decide (s = ([117, 110, 115, 101, 116] : ba)) || (decide (s = ([116, 104, 114, 111, 119] : ba)) || (decide (s = ([116, 114, 121] : ba)) || (decide (s = ([99, 97, 116, 99, 104] : ba)) || (decide (s = ([102, 105, 110, 97, 108, 108, 121] : ba)) || (decide (s = ([121, 105, 101, 108, 100] : ba)) || (decide (s = ([105, 110, 99, 108, 117, 100, 101] : ba)) || (decide (s = ([102, 117, 110, 99, 116, 105, 111, 110] : ba)) || (decide (s = ([99, 108, 97, 115, 115] : ba)) || (decide (s = ([116, 114, 97, 105, 116] : ba)) || (decide (s = ([101, 120, 116, 101, 110, 100, 115] : ba)) || (decide (s = ([117, 115, 101] : ba)) || (decide (s = ([112, 114, 105, 118, 97, 116, 101] : ba)) || (decide (s = ([115, 116, 97, 116, 105, 99] : ba)) || (decide (s = ([110, 101, 119] : ba)) || (decide (s = ([116, 114, 117, 101] : ba)) || (decide (s = ([102, 97, 108, 115, 101] : ba)) || (decide (s = ([110, 117, 108, 108] : ba)) || false)))))))))))))))))))))))))))) := rfl
 rw [e]
 unfold kl
 exact (df (df (df (df (df (df (df (df (df (df (df (df (df (df (df (df (df (df (df (df (df (df (df (df (df (df (df (df rfl))))))))))))))))))))))))))))
theorem zM (s : ba) : ∃ b, ef s = some b ∧ gq s = some b := by
 obtain ⟨b, h1, h2⟩ := Lt s
 unfold ef gq
 rw [h1, h2, sb, sb, QP, QO]
 cases b
 ·exact ⟨_, rfl, rfl⟩
 ·exact ⟨_, rfl, rfl⟩
theorem EP {α β : Type} {x : Option α} {f : α → Option β} (h1 : ∃ a, x = some a) (h2 : ∀ a, ∃ b, f a = some b) : ∃ b, (x >>= f) = some b := by
 obtain ⟨a, rfl⟩ := h1
 exact h2 a
theorem yQ {α : Type} {c : Prop} [Decidable c] {x y : Option α} (h1 : ∃ a, x = some a) (h2 : ∃ a, y = some a) : ∃ a, (if c then x else y) = some a := by
 by_cases h : c
 ·rw [if_pos h]; exact h1
 ·rw [if_neg h]; exact h2
theorem VE (n : Int) : ∃ b, cC n = some b := by
 unfold cC
 repeat first | exact ⟨_, rfl⟩ | refine yQ ?_ ?_
theorem QQ (n : Int) : ∃ b, lN n = some b := by
 unfold lN
 repeat first | exact ⟨_, rfl⟩ | refine yQ ?_ ?_
theorem QR (n : Int) : ∃ b, jt n = some b := by
 unfold jt
 repeat first | exact ⟨_, rfl⟩ | refine yQ ?_ ?_ | refine EP ?_ (fun _ => ?_)
theorem VF (n : Int) : ∃ b, iT n = some b := by
 unfold iT
 repeat first | exact ⟨_, rfl⟩ | refine yQ ?_ ?_
theorem VG (n : Int) : ∃ b, cU n = some b := by
 unfold cU
 repeat first | exact ⟨_, rfl⟩ | refine yQ ?_ ?_
theorem QS (x : aR) : ∃ b, iU x = some b := by
 unfold iU
 repeat first | exact ⟨_, rfl⟩ | refine yQ ?_ ?_ | refine EP ?_ (fun _ => ?_)
theorem VH (x : aR) : ∃ b, ff x = some b := by
 unfold ff
 repeat first | exact ⟨_, rfl⟩ | refine yQ ?_ ?_ | refine EP ?_ (fun _ => ?_)
def CX (n : Int) : Bool := (cC n).getD false
def fin (n : Int) : Bool := (iT n).getD false
def WK (n : Int) : Int := (cU n).getD 0
def Ip (x : aR) : Int := (iU x).getD 0
def WJ (x : aR) : Int := (ff x).getD 0
theorem TJ (n : Int) : cC n = some (CX n) := by obtain ⟨b, h⟩ := VE n; rw [CX, h]; rfl
theorem XI (n : Int) : iT n = some (fin n) := by obtain ⟨b, h⟩ := VF n; rw [fin, h]; rfl
theorem TK (n : Int) : cU n = some (WK n) := by obtain ⟨b, h⟩ := VG n; rw [WK, h]; rfl
theorem RZ (x : aR) : iU x = some (Ip x) := by obtain ⟨b, h⟩ := QS x; rw [Ip, h]; rfl
theorem XJ (x : aR) : ff x = some (WJ x) := by obtain ⟨b, h⟩ := VH x; rw [WJ, h]; rfl
theorem XN (n : Int) : dU n = some (CX n) := (show dU n = cC n by unfold dU cC; rfl).trans (TJ n)
theorem aa7 (n : Int) : kn n = some (fin n) := (show kn n = iT n by unfold kn iT; rfl).trans (XI n)
theorem aa9 (n : Int) : eO n = some (WK n) := (show eO n = cU n by unfold eO cU; rfl).trans (TK n)
theorem XK (x : aR) : lO x = some (Ip x) := (show lO x = iU x by unfold lO iU; rfl).trans (RZ x)
theorem aa8 (x : aR) : iZ x = some (WJ x) := (show iZ x = ff x by unfold iZ ff; rfl).trans (XJ x)
set_option maxHeartbeats 16000000 in
theorem Gi (x : aR) (a b : Int) : ∃ v, fK x a b = some v ∧ mV x a b = some v := by
 obtain ⟨n, A, B, S, T⟩ := x
 obtain ⟨gs, e1, e2⟩ := zM S
 obtain ⟨gt, e3, e4⟩ := zM T
 by_cases hn : 1 ≤ n ∧ n ≤ 56
 ·obtain ⟨k, rfl⟩ : ∃ k : Nat, n = (k : Int) := ⟨n.toNat, by omega⟩
  have hk : k ≤ 56 := by omega
  have h1 : 1 ≤ k := by omega
  clear hn
  have hc : k = 1 ∨ k = 2 ∨ k = 3 ∨ k = 4 ∨ k = 5 ∨ k = 6 ∨ k = 7 ∨ k = 8 ∨ k = 9 ∨ k = 10 ∨ k = 11 ∨ k = 12 ∨ k = 13 ∨ k = 14 ∨ k = 15 ∨ k = 16 ∨ k = 17 ∨ k = 18 ∨ k = 19 ∨ k = 20 ∨ k = 21 ∨ k = 22 ∨ k = 23 ∨ k = 24 ∨ k = 25 ∨ k = 26 ∨ k = 27 ∨ k = 28 ∨ k = 29 ∨ k = 30 ∨ k = 31 ∨ k = 32 ∨ k = 33 ∨ k = 34 ∨ k = 35 ∨ k = 36 ∨ k = 37 ∨ k = 38 ∨ k = 39 ∨ k = 40 ∨ k = 41 ∨ k = 42 ∨ k = 43 ∨ k = 44 ∨ k = 45 ∨ k = 46 ∨ k = 47 ∨ k = 48 ∨ k = 49 ∨ k = 50 ∨ k = 51 ∨ k = 52 ∨ k = 53 ∨ k = 54 ∨ k = 55 ∨ k = 56 := by omega
  clear hk h1
  rcases hc with rfl | rfl | rfl | rfl | rfl | rfl | rfl | rfl | rfl | rfl | rfl | rfl | rfl | rfl | rfl | rfl | rfl | rfl | rfl | rfl | rfl | rfl | rfl | rfl | rfl | rfl | rfl | rfl | rfl | rfl | rfl | rfl | rfl | rfl | rfl | rfl | rfl | rfl | rfl | rfl | rfl | rfl | rfl | rfl | rfl | rfl | rfl | rfl | rfl | rfl | rfl | rfl | rfl | rfl | rfl | rfl
  all_goals
   simp only [fK, mV, lL, jw, kM, pj, cC, dU, lN, jt, mv, ql, e1, e2, e3, e4, sb]
   simp [sb]
   repeat' split
   all_goals simp_all
   all_goals (try omega)
   all_goals (by_cases hT : T = [] <;> by_cases h1 : A < a <;> by_cases h2 : B < a <;> by_cases h3 : A < b <;> first | (simp_all; done) | omega | (simp_all; omega))
 ·refine ⟨false, ?_, ?_⟩
  ·unfold fK lL
   rw [mv, sb, sb, if_neg (by simpa using hn)]
  ·have key : ∀ {α : Type} {X : Option α} {f : α → Option Bool}, (∃ a, X = some a) → (∀ a, f a = some false) → (X >>= f) = some false := fun {α X f} h1 h2 => by
    obtain ⟨a, rfl⟩ := h1
    exact h2 a
   have VI := QR n
   have H2 := QQ n
   have htg : ∃ b, dU n = some b := ⟨_, XN n⟩
   have Ob : ∀ a b c, ∃ v, wh a b c = some v := fun a b c => ⟨_, ql a b c⟩
   unfold mV
   refine key ?_ (fun _ => key ?_ (fun _ => key ?_ (fun _ => key ?_ (fun _ => key ?_ (fun _ => key ?_ (fun _ => ?_))))))
   iterate 6 (repeat first | exact ⟨_, rfl⟩ | exact ⟨_, e2⟩ | exact ⟨_, e4⟩ | exact VI | exact H2 | exact htg | exact Ob _ _ _ | refine yQ ?_ ?_ | refine EP ?_ (fun _ => ?_))
   rw [ql, sb, if_neg (by simpa using hn)]
end Go.Am
