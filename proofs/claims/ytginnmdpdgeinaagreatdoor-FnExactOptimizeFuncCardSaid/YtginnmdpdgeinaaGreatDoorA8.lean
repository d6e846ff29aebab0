/- Models of Go functions, and their walks. (Printed by tools/mg.py.) -/
import Derived.Test.YtginnmdpdgeinaaGreatDoorH2
set_option linter.unusedVariables false
set_option linter.unusedSimpArgs false
set_option maxRecDepth 100000
namespace Go.Am
open Go Go.RowKit Go.Proofs
def m_l_markFunc (a0 : TFunc) (a1 : Int) : Option (Int × TFunc) :=
 m_l_markParamS a0.fParams a1 >>= fun (v1, v2) =>
 m_l_markParamS a0.fUses v1 >>= fun (v5, v6) =>
 m_l_markStringS a0.fSlots v5 >>= fun (v9, v10) =>
 m_l_markInsS a0.fCode v9 >>= fun (v13, v14) =>
 some (v13, (TFunc.mk a0.fName v2 v6 v10 a0.fGen v14))
theorem ok_l_markFunc {a0 : TFunc} {a1 : Int} {r : Int × TFunc} {g1000 : Nat} {g1001 : Nat} {g1002 : Nat} {g1003 : Nat} (h : m_l_markFunc a0 a1 = some r) : ACall Tryz.prog 13 [.agg [.str a0.fName, .own 0 g1000 0 a0.fParams.length, .own 1 g1001 0 a0.fUses.length, .own 2 g1002 0 a0.fSlots.length, .bool a0.fGen, .own 3 g1003 0 a0.fCode.length], .int .i64 a1] [.row g1000 2 a0.fParams.length 70 (row TParam.cells a0.fParams), .row g1001 2 a0.fUses.length 70 (row TParam.cells a0.fUses), .row g1002 1 a0.fSlots.length 9 (row cS a0.fSlots), .row g1003 5 a0.fCode.length 46 (row TIns.cells a0.fCode)] (fun res h => res = .int .i64 r.1 ∧ h = [.row g1000 2 r.2.fParams.length 70 (row TParam.cells r.2.fParams), .row g1001 2 r.2.fUses.length 70 (row TParam.cells r.2.fUses), .row g1002 1 r.2.fSlots.length 9 (row cS r.2.fSlots), .row g1003 5 r.2.fCode.length 46 (row TIns.cells r.2.fCode)]) := by
 refine vc1 Tryz.func13 ?_
 unfold m_l_markFunc at h
 refine .d (.d ⟨rfl, ⟨rfl, _, rfl, ?_⟩⟩)
 obtain ⟨⟨v1, v2⟩, hv3, h⟩ := bd h
 obtain hl4 := markParamS_len hv3
 refine pcO (ok_l_markParamS (g1000 := g1000) hv3) [0] ⟨ov, ⟨⟩⟩ (.int .i64 v1) [.row g1000 2 v2.length 70 (row TParam.cells v2), .row g1001 2 a0.fUses.length 70 (row TParam.cells a0.fUses), .row g1002 1 a0.fSlots.length 9 (row cS a0.fSlots), .row g1003 5 a0.fCode.length 46 (row TIns.cells a0.fCode), .row 0 6 1 32 (fun _ => [.str a0.fName, .own 0 g1000 0 a0.fParams.length, .own 1 g1001 0 a0.fUses.length, .own 2 g1002 0 a0.fSlots.length, .bool a0.fGen, .own 3 g1003 0 a0.fCode.length])] (.d ⟨rfl, ⟨rfl, _, rfl, ?_⟩⟩)
 obtain ⟨⟨v5, v6⟩, hv7, h⟩ := bd h
 obtain hl8 := markParamS_len hv7
 refine pcO (ok_l_markParamS (g1000 := g1001) hv7) [1] ⟨ov, ⟨⟩⟩ (.int .i64 v5) [.row g1000 2 v2.length 70 (row TParam.cells v2), .row g1001 2 v6.length 70 (row TParam.cells v6), .row g1002 1 a0.fSlots.length 9 (row cS a0.fSlots), .row g1003 5 a0.fCode.length 46 (row TIns.cells a0.fCode), .row 0 6 1 32 (fun _ => [.str a0.fName, .own 0 g1000 0 a0.fParams.length, .own 1 g1001 0 a0.fUses.length, .own 2 g1002 0 a0.fSlots.length, .bool a0.fGen, .own 3 g1003 0 a0.fCode.length])] (.d ⟨rfl, ⟨rfl, _, rfl, ?_⟩⟩)
 obtain ⟨⟨v9, v10⟩, hv11, h⟩ := bd h
 obtain hl12 := markStringS_len hv11
 refine pcO (ok_l_markStringS (g1000 := g1002) hv11) [2] ⟨ov, ⟨⟩⟩ (.int .i64 v9) [.row g1000 2 v2.length 70 (row TParam.cells v2), .row g1001 2 v6.length 70 (row TParam.cells v6), .row g1002 1 v10.length 9 (row cS v10), .row g1003 5 a0.fCode.length 46 (row TIns.cells a0.fCode), .row 0 6 1 32 (fun _ => [.str a0.fName, .own 0 g1000 0 a0.fParams.length, .own 1 g1001 0 a0.fUses.length, .own 2 g1002 0 a0.fSlots.length, .bool a0.fGen, .own 3 g1003 0 a0.fCode.length])] (.d ⟨rfl, ⟨rfl, _, rfl, ?_⟩⟩)
 obtain ⟨⟨v13, v14⟩, hv15, h⟩ := bd h
 obtain hl16 := markInsS_len hv15
 refine pcO (ok_l_markInsS (g1000 := g1003) hv15) [3] ⟨ov, ⟨⟩⟩ (.int .i64 v13) [.row g1000 2 v2.length 70 (row TParam.cells v2), .row g1001 2 v6.length 70 (row TParam.cells v6), .row g1002 1 v10.length 9 (row cS v10), .row g1003 5 v14.length 46 (row TIns.cells v14), .row 0 6 1 32 (fun _ => [.str a0.fName, .own 0 g1000 0 a0.fParams.length, .own 1 g1001 0 a0.fUses.length, .own 2 g1002 0 a0.fSlots.length, .bool a0.fGen, .own 3 g1003 0 a0.fCode.length])] (.d ?_)
 obtain rfl := si h
 exact en [0, 1, 2, 3] ⟨rfl, rfl⟩ .i ⟨od, od, od, od, ⟨⟩⟩
end Go.Am
