/- Models of Go functions, and their walks. (Printed by tools/mg.py.) -/
import Derived.Test.YtginnmdpdgeinaaGreatDoorC2
import Derived.Test.YtginnmdpdgeinaaGreatDoorH3
set_option linter.unusedVariables false
set_option linter.unusedSimpArgs false
set_option maxRecDepth 100000
namespace Go.Am
open Go Go.RowKit Go.Proofs
def m_l_FnExactCheckFold (a0 : TFunc) (a1 : TFunc) : Option (Bool) :=
 m_l_szFunc a0 1048576 >>= fun v1 =>
 (if v1 < 0 then
 some true
 else
 m_l_szFunc a1 v1 >>= fun v4 =>
 (if v4 < 0 then
 some true
 else
 m_l_toFunc a0 >>= fun v7 =>
 m_l_toFunc a1 >>= fun v9 =>
 m_s_CheckFold v7 v9 >>= fun v11 =>
 m_l_toFunc a0 >>= fun v13 =>
 m_l_toFunc a1 >>= fun v15 =>
 m_i_CheckFold v13 v15 >>= fun v17 =>
 (if v17 = v11 then
 m_l_toFunc a0 >>= fun v20 =>
 m_l_eqFunc v13 v20 >>= fun v22 =>
 (if v22 = true then
 m_l_toFunc a1 >>= fun v25 =>
 m_l_eqFunc v15 v25 >>= fun v27 =>
 (if v27 = true then
 some true
 else
 some false)
 else
 some false)
 else
 some false)))
theorem ok_l_FnExactCheckFold {a0 : TFunc} {a1 : TFunc} {r : Bool} (h : m_l_FnExactCheckFold a0 a1 = some r) : ACall Tryz.prog 3 [.agg a0.lit, .agg a1.lit] [] (fun res h => res = .bool r ∧ h = []) := by
 refine vc1 Tryz.func3 ?_
 unfold m_l_FnExactCheckFold at h
 refine .d (.d (.d ⟨rfl, _, rfl, (bk h fun v1 hv2 h => (pcP (ok_l_szFunc hv2) (.d (.d (sD h (fun hb3 h => ?_) (fun hb3 h => ?_))))))⟩))
 exact .d (eB h)
 refine .d ⟨rfl, _, rfl, (bk h fun v4 hv5 h => (pcP (ok_l_szFunc hv5) (.d (.d (sD h (fun hb6 h => ?_) (fun hb6 h => ?_))))))⟩
 exact .d (eB h)
 refine .d (.float [(0, true), (2, true), (1, false), (3, false), (4, false), (5, true)] (by kernel_rfl) ?_)
 refine ⟨rfl, _, rfl, ⟨rfl, _, rfl, (bk h fun v7 hv8 h => (pcP (ok_l_toFunc hv8) ⟨rfl, (bk h fun v9 hv10 h => (pcP (ok_l_toFunc hv10) (bk h fun v11 hv12 h => (pcP (ok_s_CheckFold hv12) (.d ⟨rfl, _, rfl, (bk h fun v13 hv14 h => (pcP (ok_l_toFunc hv14) ⟨rfl, _, fun _ => [.str v13.fName, sl 2 TParam.cells v13.fParams, sl 2 TParam.cells v13.fUses, sl 1 cS v13.fSlots, .bool v13.fGen, sl 5 TIns.cells v13.fCode], rfl, one_set rfl, (.d ?_)⟩))⟩)))))⟩))⟩⟩
 refine ⟨rfl, _, rfl, (bk h fun v15 hv16 h => (pcP (ok_l_toFunc hv16) ⟨rfl, _, fun _ => [.str v15.fName, sl 2 TParam.cells v15.fParams, sl 2 TParam.cells v15.fUses, sl 1 cS v15.fSlots, .bool v15.fGen, sl 5 TIns.cells v15.fCode], rfl, one_set rfl, (.d ⟨rfl, _, rfl, ⟨rfl, _, rfl, (bk h fun v17 hv18 h => (pcP (ok_i_CheckFold hv18) (.d (.d (sEn h (fun hb19 h => ?_) (fun hb19 h => ?_))))))⟩⟩)⟩))⟩
 exact .d (eB h)
 refine .d (.d (.float [(0, true), (1, true), (2, false), (3, false), (4, true)] (by kernel_rfl) ?_))
 refine ⟨rfl, _, rfl, ⟨rfl, _, rfl, (bk h fun v20 hv21 h => (pcP (ok_l_toFunc hv21) ⟨rfl, (bk h fun v22 hv23 h => (pcP (ok_l_eqFunc hv23) (sVn h (fun hb24 h => ?_) (fun hb24 h => ?_))))⟩))⟩⟩
 exact .d (eB h)
 refine .d (.d (.float [(0, true), (1, true), (2, false), (3, false), (4, true)] (by kernel_rfl) ?_))
 refine ⟨rfl, _, rfl, ⟨rfl, _, rfl, (bk h fun v25 hv26 h => (pcP (ok_l_toFunc hv26) ⟨rfl, (bk h fun v27 hv28 h => (pcP (ok_l_eqFunc hv28) (sVn h (fun hb29 h => ?_) (fun hb29 h => ?_))))⟩))⟩⟩
 exact .d (eB h)
 exact .d (eB h)
def m_l_FnExactFoldCode (a0 : TFunc) : Option (Bool) :=
 m_l_szFunc a0 1048576 >>= fun v1 =>
 (if v1 < 0 then
 some true
 else
 m_l_toFunc a0 >>= fun v4 =>
 m_s_FoldCode v4 >>= fun v6 =>
 m_l_toFunc a0 >>= fun v8 =>
 m_i_FoldCode v8 >>= fun v10 =>
 m_l_eqFunc v10 v6 >>= fun v12 =>
 (if v12 = true then
 m_l_toFunc a0 >>= fun v15 =>
 m_l_eqFunc v8 v15 >>= fun v17 =>
 (if v17 = true then
 m_l_markFunc v8 1 >>= fun (v20, v21) =>
 (if v20 < 0 then
 some false
 else
 m_l_eqFunc v10 v6 >>= fun v28 =>
 (if v28 = true then
 m_l_markFunc v10 1 >>= fun (v31, v32) =>
 m_l_heldFunc (TFunc.mk v10.fName v32.fParams v32.fUses v32.fSlots v10.fGen v32.fCode) 1 >>= fun v38 =>
 (if v38 < 0 then
 some false
 else
 (if v38 = v31 then
 m_l_toFunc a0 >>= fun v42 =>
 m_i_FoldCode v42 >>= fun v44 =>
 m_l_eqFunc v44 v6 >>= fun v46 =>
 (if v46 = true then
 m_l_heldFunc (TFunc.mk v10.fName v32.fParams v32.fUses v32.fSlots v10.fGen v32.fCode) 1 >>= fun v49 =>
 (if v49 < 0 then
 some false
 else
 (if v49 = v31 then
 some true
 else
 some false))
 else
 some false)
 else
 some false))
 else
 some false))
 else
 some false)
 else
 some false))
theorem ok_l_FnExactFoldCode {a0 : TFunc} {r : Bool} (h : m_l_FnExactFoldCode a0 = some r) : ACall Tryz.prog 4 [.agg a0.lit] [] (fun res h => res = .bool r ∧ h = []) := by
 refine vc1 Tryz.func4 ?_
 unfold m_l_FnExactFoldCode at h
 refine .d (.d (.d ⟨rfl, _, rfl, (bk h fun v1 hv2 h => (pcP (ok_l_szFunc hv2) (.d (.d (sD h (fun hb3 h => ?_) (fun hb3 h => ?_))))))⟩))
 exact .d (eB h)
 refine .d ⟨rfl, _, rfl, (bk h fun v4 hv5 h => (pcP (ok_l_toFunc hv5) (bk h fun v6 hv7 h => (pcP (ok_s_FoldCode hv7) ⟨rfl, _, fun _ => [.str v6.fName, sl 2 TParam.cells v6.fParams, sl 2 TParam.cells v6.fUses, sl 1 cS v6.fSlots, .bool v6.fGen, sl 5 TIns.cells v6.fCode], rfl, one_set rfl, (.d ⟨rfl, _, rfl, (bk h fun v8 hv9 h => (pcF (own_l_toFunc hv9) (.agg [.str v8.fName, .own 2 0 0 v8.fParams.length, .own 3 0 0 v8.fUses.length, .own 4 0 0 v8.fSlots.length, .bool v8.fGen, .own 5 0 0 v8.fCode.length]) [.row 0 6 1 26 (fun _ => a0.lit), .row 0 6 1 32 (fun _ => v6.lit), .row 0 2 v8.fParams.length 70 (row TParam.cells v8.fParams), .row 0 2 v8.fUses.length 70 (row TParam.cells v8.fUses), .row 0 1 v8.fSlots.length 9 (row cS v8.fSlots), .row 0 5 v8.fCode.length 46 (row TIns.cells v8.fCode)] ⟨rfl, _, fun _ => [.str v8.fName, .own 2 0 0 v8.fParams.length, .own 3 0 0 v8.fUses.length, .own 4 0 0 v8.fSlots.length, .bool v8.fGen, .own 5 0 0 v8.fCode.length], rfl, one_set rfl, (.d ⟨rfl, _, rfl, (bk h fun v10 hv11 h => ?_)⟩)⟩))⟩)⟩))))⟩
 refine pcFS (ok_i_FoldCode hv11) ⟨.agg_l ⟨.s, .r, .r, .r, .b, .r, ⟨⟩⟩, ⟨⟩⟩ (.agg [.str v10.fName, .own 7 0 0 v10.fParams.length, .own 8 0 0 v10.fUses.length, .own 9 0 0 v10.fSlots.length, .bool v10.fGen, .own 10 0 0 v10.fCode.length]) [.row 0 6 1 26 (fun _ => a0.lit), .row 0 6 1 32 (fun _ => v6.lit), .row 0 2 v8.fParams.length 70 (row TParam.cells v8.fParams), .row 0 2 v8.fUses.length 70 (row TParam.cells v8.fUses), .row 0 1 v8.fSlots.length 9 (row cS v8.fSlots), .row 0 5 v8.fCode.length 46 (row TIns.cells v8.fCode), .row 0 6 1 32 (fun _ => [.str v8.fName, .own 2 0 0 v8.fParams.length, .own 3 0 0 v8.fUses.length, .own 4 0 0 v8.fSlots.length, .bool v8.fGen, .own 5 0 0 v8.fCode.length]), .row 0 2 v10.fParams.length 70 (row TParam.cells v10.fParams), .row 0 2 v10.fUses.length 70 (row TParam.cells v10.fUses), .row 0 1 v10.fSlots.length 9 (row cS v10.fSlots), .row 0 5 v10.fCode.length 46 (row TIns.cells v10.fCode)] (flatL_cons (flatO_row (fun _ => rfl)) (flatL_cons (flatO_row (fun _ => rfl)) (flatL_cons (flatO_row (fun _ => rfl)) (flatL_cons (flatO_row (fun _ => rfl)) flatL_nil)))) ⟨rfl, _, fun _ => [.str v10.fName, .own 7 0 0 v10.fParams.length, .own 8 0 0 v10.fUses.length, .own 9 0 0 v10.fSlots.length, .bool v10.fGen, .own 10 0 0 v10.fCode.length], rfl, one_set rfl, (.d (.d ⟨rfl, _, rfl, ⟨rfl, _, rfl, (bk h fun v12 hv13 h => (pcS (ok_l_eqFunc hv13) ⟨.agg_l ⟨.s, .r, .r, .r, .b, .r, ⟨⟩⟩, .agg_l ⟨.s, .l, .l, .l, .b, .l, ⟨⟩⟩, ⟨⟩⟩ (sVn h (fun hb14 h => ?_) (fun hb14 h => ?_))))⟩⟩))⟩
 exact .d (eB h)
 refine .d (.d (.float [(0, true), (1, true), (2, false), (3, false), (4, true)] (by kernel_rfl) ?_))
 refine ⟨rfl, _, rfl, ⟨rfl, _, rfl, (bk h fun v15 hv16 h => (pcP (ok_l_toFunc hv16) ⟨rfl, (bk h fun v17 hv18 h => (pcS (ok_l_eqFunc hv18) ⟨.agg_l ⟨.s, .r, .r, .r, .b, .r, ⟨⟩⟩, .agg_l ⟨.s, .l, .l, .l, .b, .l, ⟨⟩⟩, ⟨⟩⟩ (sVn h (fun hb19 h => ?_) (fun hb19 h => ?_))))⟩))⟩⟩
 exact .d (eB h)
 refine .d (.d ⟨rfl, _, rfl, ?_⟩)
 obtain ⟨⟨v20, v21⟩, hv22, h⟩ := bd h
 obtain ⟨hl23, hl24, hl25, hl26⟩ := markFunc_len hv22
 refine pcO (ok_l_markFunc (g1000 := 0) (g1001 := 0) (g1002 := 0) (g1003 := 0) hv22) [2, 3, 4, 5] ⟨ov, ov, ov, ov, ⟨⟩⟩ (.int .i64 v20) [.row 0 6 1 26 (fun _ => a0.lit), .row 0 6 1 32 (fun _ => v6.lit), .row 0 2 v21.fParams.length 70 (row TParam.cells v21.fParams), .row 0 2 v21.fUses.length 70 (row TParam.cells v21.fUses), .row 0 1 v21.fSlots.length 9 (row cS v21.fSlots), .row 0 5 v21.fCode.length 46 (row TIns.cells v21.fCode), .row 0 6 1 32 (fun _ => [.str v8.fName, .own 2 0 0 v8.fParams.length, .own 3 0 0 v8.fUses.length, .own 4 0 0 v8.fSlots.length, .bool v8.fGen, .own 5 0 0 v8.fCode.length]), .row 0 2 v10.fParams.length 70 (row TParam.cells v10.fParams), .row 0 2 v10.fUses.length 70 (row TParam.cells v10.fUses), .row 0 1 v10.fSlots.length 9 (row cS v10.fSlots), .row 0 5 v10.fCode.length 46 (row TIns.cells v10.fCode), .row 0 6 1 32 (fun _ => [.str v10.fName, .own 7 0 0 v10.fParams.length, .own 8 0 0 v10.fUses.length, .own 9 0 0 v10.fSlots.length, .bool v10.fGen, .own 10 0 0 v10.fCode.length])] (.d (.d (sD h (fun hb27 h => ?_) (fun hb27 h => ?_))))
 exact .t (.t (.t (.t (.t (.d (eB h))))))
 refine ⟨rfl, _, rfl, (.f ⟨rfl, _, rfl, (.f (bk h fun v28 hv29 h => (pcS (ok_l_eqFunc hv29) ⟨.agg_l ⟨.s, .r, .r, .r, .b, .r, ⟨⟩⟩, .agg_l ⟨.s, .l, .l, .l, .b, .l, ⟨⟩⟩, ⟨⟩⟩ (.f (.f (sVn h (fun hb30 h => ?_) (fun hb30 h => ?_)))))))⟩)⟩
 exact .d (eB h)
 refine .d (.d ⟨rfl, _, rfl, ?_⟩)
 obtain ⟨⟨v31, v32⟩, hv33, h⟩ := bd h
 obtain ⟨hl34, hl35, hl36, hl37⟩ := markFunc_len hv33
 refine pcO (ok_l_markFunc (g1000 := 0) (g1001 := 0) (g1002 := 0) (g1003 := 0) hv33) [7, 8, 9, 10] ⟨ov, ov, ov, ov, ⟨⟩⟩ (.int .i64 v31) [.row 0 6 1 26 (fun _ => a0.lit), .row 0 6 1 32 (fun _ => v6.lit), .row 0 2 v21.fParams.length 70 (row TParam.cells v21.fParams), .row 0 2 v21.fUses.length 70 (row TParam.cells v21.fUses), .row 0 1 v21.fSlots.length 9 (row cS v21.fSlots), .row 0 5 v21.fCode.length 46 (row TIns.cells v21.fCode), .row 0 6 1 32 (fun _ => [.str v8.fName, .own 2 0 0 v8.fParams.length, .own 3 0 0 v8.fUses.length, .own 4 0 0 v8.fSlots.length, .bool v8.fGen, .own 5 0 0 v8.fCode.length]), .row 0 2 v32.fParams.length 70 (row TParam.cells v32.fParams), .row 0 2 v32.fUses.length 70 (row TParam.cells v32.fUses), .row 0 1 v32.fSlots.length 9 (row cS v32.fSlots), .row 0 5 v32.fCode.length 46 (row TIns.cells v32.fCode), .row 0 6 1 32 (fun _ => [.str v10.fName, .own 7 0 0 v10.fParams.length, .own 8 0 0 v10.fUses.length, .own 9 0 0 v10.fSlots.length, .bool v10.fGen, .own 10 0 0 v10.fCode.length])] (.d (.d ⟨rfl, _, rfl, (bk h fun v38 hv39 h => (pcS (ok_l_heldFunc hv39) ⟨.agg_l ⟨.s, (.rx (by first | rfl | simp [hl23, hl24, hl25, hl26, hl34, hl35, hl36, hl37])), (.rx (by first | rfl | simp [hl23, hl24, hl25, hl26, hl34, hl35, hl36, hl37])), (.rx (by first | rfl | simp [hl23, hl24, hl25, hl26, hl34, hl35, hl36, hl37])), .b, (.rx (by first | rfl | simp [hl23, hl24, hl25, hl26, hl34, hl35, hl36, hl37])), ⟨⟩⟩, .i, ⟨⟩⟩ (.d (.d (sD h (fun hb40 h => ?_) (fun hb40 h => ?_))))))⟩))
 exact .d (eB h)
 refine .d (.d (sN h (fun hb41 h => ?_) (fun hb41 h => ?_)))
 exact .d (eB h)
 refine .d ⟨rfl, _, rfl, (bk h fun v42 hv43 h => (pcP (ok_l_toFunc hv43) (bk h fun v44 hv45 h => (pcF (ok_i_FoldCode hv45) (.agg [.str v44.fName, .own 12 0 0 v44.fParams.length, .own 13 0 0 v44.fUses.length, .own 14 0 0 v44.fSlots.length, .bool v44.fGen, .own 15 0 0 v44.fCode.length]) [.row 0 6 1 26 (fun _ => a0.lit), .row 0 6 1 32 (fun _ => v6.lit), .row 0 2 v21.fParams.length 70 (row TParam.cells v21.fParams), .row 0 2 v21.fUses.length 70 (row TParam.cells v21.fUses), .row 0 1 v21.fSlots.length 9 (row cS v21.fSlots), .row 0 5 v21.fCode.length 46 (row TIns.cells v21.fCode), .row 0 6 1 32 (fun _ => [.str v8.fName, .own 2 0 0 v8.fParams.length, .own 3 0 0 v8.fUses.length, .own 4 0 0 v8.fSlots.length, .bool v8.fGen, .own 5 0 0 v8.fCode.length]), .row 0 2 v32.fParams.length 70 (row TParam.cells v32.fParams), .row 0 2 v32.fUses.length 70 (row TParam.cells v32.fUses), .row 0 1 v32.fSlots.length 9 (row cS v32.fSlots), .row 0 5 v32.fCode.length 46 (row TIns.cells v32.fCode), .row 0 6 1 32 (fun _ => [.str v10.fName, .own 7 0 0 v10.fParams.length, .own 8 0 0 v10.fUses.length, .own 9 0 0 v10.fSlots.length, .bool v10.fGen, .own 10 0 0 v10.fCode.length]), .row 0 2 v44.fParams.length 70 (row TParam.cells v44.fParams), .row 0 2 v44.fUses.length 70 (row TParam.cells v44.fUses), .row 0 1 v44.fSlots.length 9 (row cS v44.fSlots), .row 0 5 v44.fCode.length 46 (row TIns.cells v44.fCode)] ⟨rfl, _, fun _ => [.str v44.fName, .own 12 0 0 v44.fParams.length, .own 13 0 0 v44.fUses.length, .own 14 0 0 v44.fSlots.length, .bool v44.fGen, .own 15 0 0 v44.fCode.length], rfl, one_set rfl, (.d (.d ⟨rfl, _, rfl, ⟨rfl, _, rfl, (bk h fun v46 hv47 h => (pcS (ok_l_eqFunc hv47) ⟨.agg_l ⟨.s, .r, .r, .r, .b, .r, ⟨⟩⟩, .agg_l ⟨.s, .l, .l, .l, .b, .l, ⟨⟩⟩, ⟨⟩⟩ (sVn h (fun hb48 h => ?_) (fun hb48 h => ?_))))⟩⟩))⟩))))⟩
 exact .d (eB h)
 refine .d (.d ⟨rfl, _, rfl, (bk h fun v49 hv50 h => (pcS (ok_l_heldFunc hv50) ⟨.agg_l ⟨.s, (.rx (by first | rfl | simp [hl23, hl24, hl25, hl26, hl34, hl35, hl36, hl37])), (.rx (by first | rfl | simp [hl23, hl24, hl25, hl26, hl34, hl35, hl36, hl37])), (.rx (by first | rfl | simp [hl23, hl24, hl25, hl26, hl34, hl35, hl36, hl37])), .b, (.rx (by first | rfl | simp [hl23, hl24, hl25, hl26, hl34, hl35, hl36, hl37])), ⟨⟩⟩, .i, ⟨⟩⟩ (.d (.d (sD h (fun hb51 h => ?_) (fun hb51 h => ?_))))))⟩)
 exact .d (eB h)
 refine .d (.d (sN h (fun hb52 h => ?_) (fun hb52 h => ?_)))
 exact .d (eB h)
 exact .d (eB h)
def m_l_FnExactOptimizeFunc (a0 : TFunc) : Option (Bool) :=
 m_l_szFunc a0 1048576 >>= fun v1 =>
 (if v1 < 0 then
 some true
 else
 m_l_toFunc a0 >>= fun v4 =>
 m_s_OptimizeFunc v4 >>= fun v6 =>
 m_l_toFunc a0 >>= fun v8 =>
 m_i_OptimizeFunc v8 >>= fun v10 =>
 m_l_eqFunc v10 v6 >>= fun v12 =>
 (if v12 = true then
 m_l_toFunc a0 >>= fun v15 =>
 m_l_eqFunc v8 v15 >>= fun v17 =>
 (if v17 = true then
 m_l_markFunc v8 1 >>= fun (v20, v21) =>
 (if v20 < 0 then
 some false
 else
 m_l_eqFunc v10 v6 >>= fun v28 =>
 (if v28 = true then
 m_l_markFunc v10 1 >>= fun (v31, v32) =>
 m_l_heldFunc (TFunc.mk v10.fName v32.fParams v32.fUses v32.fSlots v10.fGen v32.fCode) 1 >>= fun v38 =>
 (if v38 < 0 then
 some false
 else
 (if v38 = v31 then
 m_l_toFunc a0 >>= fun v42 =>
 m_i_OptimizeFunc v42 >>= fun v44 =>
 m_l_eqFunc v44 v6 >>= fun v46 =>
 (if v46 = true then
 m_l_heldFunc (TFunc.mk v10.fName v32.fParams v32.fUses v32.fSlots v10.fGen v32.fCode) 1 >>= fun v49 =>
 (if v49 < 0 then
 some false
 else
 (if v49 = v31 then
 some true
 else
 some false))
 else
 some false)
 else
 some false))
 else
 some false))
 else
 some false)
 else
 some false))
theorem ok_l_FnExactOptimizeFunc {a0 : TFunc} {r : Bool} (h : m_l_FnExactOptimizeFunc a0 = some r) : ACall Tryz.prog 5 [.agg a0.lit] [] (fun res h => res = .bool r ∧ h = []) := by
 refine vc1 Tryz.func5 ?_
 unfold m_l_FnExactOptimizeFunc at h
 refine .d (.d (.d ⟨rfl, _, rfl, (bk h fun v1 hv2 h => (pcP (ok_l_szFunc hv2) (.d (.d (sD h (fun hb3 h => ?_) (fun hb3 h => ?_))))))⟩))
 exact .d (eB h)
 refine .d ⟨rfl, _, rfl, (bk h fun v4 hv5 h => (pcP (ok_l_toFunc hv5) (bk h fun v6 hv7 h => (pcP (ok_s_OptimizeFunc hv7) ⟨rfl, _, fun _ => [.str v6.fName, sl 2 TParam.cells v6.fParams, sl 2 TParam.cells v6.fUses, sl 1 cS v6.fSlots, .bool v6.fGen, sl 5 TIns.cells v6.fCode], rfl, one_set rfl, (.d ⟨rfl, _, rfl, (bk h fun v8 hv9 h => (pcF (own_l_toFunc hv9) (.agg [.str v8.fName, .own 2 0 0 v8.fParams.length, .own 3 0 0 v8.fUses.length, .own 4 0 0 v8.fSlots.length, .bool v8.fGen, .own 5 0 0 v8.fCode.length]) [.row 0 6 1 26 (fun _ => a0.lit), .row 0 6 1 32 (fun _ => v6.lit), .row 0 2 v8.fParams.length 70 (row TParam.cells v8.fParams), .row 0 2 v8.fUses.length 70 (row TParam.cells v8.fUses), .row 0 1 v8.fSlots.length 9 (row cS v8.fSlots), .row 0 5 v8.fCode.length 46 (row TIns.cells v8.fCode)] ⟨rfl, _, fun _ => [.str v8.fName, .own 2 0 0 v8.fParams.length, .own 3 0 0 v8.fUses.length, .own 4 0 0 v8.fSlots.length, .bool v8.fGen, .own 5 0 0 v8.fCode.length], rfl, one_set rfl, (.d ⟨rfl, _, rfl, (bk h fun v10 hv11 h => ?_)⟩)⟩))⟩)⟩))))⟩
 refine pcFS (ok_i_OptimizeFunc hv11) ⟨.agg_l ⟨.s, .r, .r, .r, .b, .r, ⟨⟩⟩, ⟨⟩⟩ (.agg [.str v10.fName, .own 7 0 0 v10.fParams.length, .own 8 0 0 v10.fUses.length, .own 9 0 0 v10.fSlots.length, .bool v10.fGen, .own 10 0 0 v10.fCode.length]) [.row 0 6 1 26 (fun _ => a0.lit), .row 0 6 1 32 (fun _ => v6.lit), .row 0 2 v8.fParams.length 70 (row TParam.cells v8.fParams), .row 0 2 v8.fUses.length 70 (row TParam.cells v8.fUses), .row 0 1 v8.fSlots.length 9 (row cS v8.fSlots), .row 0 5 v8.fCode.length 46 (row TIns.cells v8.fCode), .row 0 6 1 32 (fun _ => [.str v8.fName, .own 2 0 0 v8.fParams.length, .own 3 0 0 v8.fUses.length, .own 4 0 0 v8.fSlots.length, .bool v8.fGen, .own 5 0 0 v8.fCode.length]), .row 0 2 v10.fParams.length 70 (row TParam.cells v10.fParams), .row 0 2 v10.fUses.length 70 (row TParam.cells v10.fUses), .row 0 1 v10.fSlots.length 9 (row cS v10.fSlots), .row 0 5 v10.fCode.length 46 (row TIns.cells v10.fCode)] (flatL_cons (flatO_row (fun _ => rfl)) (flatL_cons (flatO_row (fun _ => rfl)) (flatL_cons (flatO_row (fun _ => rfl)) (flatL_cons (flatO_row (fun _ => rfl)) flatL_nil)))) ⟨rfl, _, fun _ => [.str v10.fName, .own 7 0 0 v10.fParams.length, .own 8 0 0 v10.fUses.length, .own 9 0 0 v10.fSlots.length, .bool v10.fGen, .own 10 0 0 v10.fCode.length], rfl, one_set rfl, (.d (.d ⟨rfl, _, rfl, ⟨rfl, _, rfl, (bk h fun v12 hv13 h => (pcS (ok_l_eqFunc hv13) ⟨.agg_l ⟨.s, .r, .r, .r, .b, .r, ⟨⟩⟩, .agg_l ⟨.s, .l, .l, .l, .b, .l, ⟨⟩⟩, ⟨⟩⟩ (sVn h (fun hb14 h => ?_) (fun hb14 h => ?_))))⟩⟩))⟩
 exact .d (eB h)
 refine .d (.d (.float [(0, true), (1, true), (2, false), (3, false), (4, true)] (by kernel_rfl) ?_))
 refine ⟨rfl, _, rfl, ⟨rfl, _, rfl, (bk h fun v15 hv16 h => (pcP (ok_l_toFunc hv16) ⟨rfl, (bk h fun v17 hv18 h => (pcS (ok_l_eqFunc hv18) ⟨.agg_l ⟨.s, .r, .r, .r, .b, .r, ⟨⟩⟩, .agg_l ⟨.s, .l, .l, .l, .b, .l, ⟨⟩⟩, ⟨⟩⟩ (sVn h (fun hb19 h => ?_) (fun hb19 h => ?_))))⟩))⟩⟩
 exact .d (eB h)
 refine .d (.d ⟨rfl, _, rfl, ?_⟩)
 obtain ⟨⟨v20, v21⟩, hv22, h⟩ := bd h
 obtain ⟨hl23, hl24, hl25, hl26⟩ := markFunc_len hv22
 refine pcO (ok_l_markFunc (g1000 := 0) (g1001 := 0) (g1002 := 0) (g1003 := 0) hv22) [2, 3, 4, 5] ⟨ov, ov, ov, ov, ⟨⟩⟩ (.int .i64 v20) [.row 0 6 1 26 (fun _ => a0.lit), .row 0 6 1 32 (fun _ => v6.lit), .row 0 2 v21.fParams.length 70 (row TParam.cells v21.fParams), .row 0 2 v21.fUses.length 70 (row TParam.cells v21.fUses), .row 0 1 v21.fSlots.length 9 (row cS v21.fSlots), .row 0 5 v21.fCode.length 46 (row TIns.cells v21.fCode), .row 0 6 1 32 (fun _ => [.str v8.fName, .own 2 0 0 v8.fParams.length, .own 3 0 0 v8.fUses.length, .own 4 0 0 v8.fSlots.length, .bool v8.fGen, .own 5 0 0 v8.fCode.length]), .row 0 2 v10.fParams.length 70 (row TParam.cells v10.fParams), .row 0 2 v10.fUses.length 70 (row TParam.cells v10.fUses), .row 0 1 v10.fSlots.length 9 (row cS v10.fSlots), .row 0 5 v10.fCode.length 46 (row TIns.cells v10.fCode), .row 0 6 1 32 (fun _ => [.str v10.fName, .own 7 0 0 v10.fParams.length, .own 8 0 0 v10.fUses.length, .own 9 0 0 v10.fSlots.length, .bool v10.fGen, .own 10 0 0 v10.fCode.length])] (.d (.d (sD h (fun hb27 h => ?_) (fun hb27 h => ?_))))
 exact .t (.t (.t (.t (.t (.d (eB h))))))
 refine ⟨rfl, _, rfl, (.f ⟨rfl, _, rfl, (.f (bk h fun v28 hv29 h => (pcS (ok_l_eqFunc hv29) ⟨.agg_l ⟨.s, .r, .r, .r, .b, .r, ⟨⟩⟩, .agg_l ⟨.s, .l, .l, .l, .b, .l, ⟨⟩⟩, ⟨⟩⟩ (.f (.f (sVn h (fun hb30 h => ?_) (fun hb30 h => ?_)))))))⟩)⟩
 exact .d (eB h)
 refine .d (.d ⟨rfl, _, rfl, ?_⟩)
 obtain ⟨⟨v31, v32⟩, hv33, h⟩ := bd h
 obtain ⟨hl34, hl35, hl36, hl37⟩ := markFunc_len hv33
 refine pcO (ok_l_markFunc (g1000 := 0) (g1001 := 0) (g1002 := 0) (g1003 := 0) hv33) [7, 8, 9, 10] ⟨ov, ov, ov, ov, ⟨⟩⟩ (.int .i64 v31) [.row 0 6 1 26 (fun _ => a0.lit), .row 0 6 1 32 (fun _ => v6.lit), .row 0 2 v21.fParams.length 70 (row TParam.cells v21.fParams), .row 0 2 v21.fUses.length 70 (row TParam.cells v21.fUses), .row 0 1 v21.fSlots.length 9 (row cS v21.fSlots), .row 0 5 v21.fCode.length 46 (row TIns.cells v21.fCode), .row 0 6 1 32 (fun _ => [.str v8.fName, .own 2 0 0 v8.fParams.length, .own 3 0 0 v8.fUses.length, .own 4 0 0 v8.fSlots.length, .bool v8.fGen, .own 5 0 0 v8.fCode.length]), .row 0 2 v32.fParams.length 70 (row TParam.cells v32.fParams), .row 0 2 v32.fUses.length 70 (row TParam.cells v32.fUses), .row 0 1 v32.fSlots.length 9 (row cS v32.fSlots), .row 0 5 v32.fCode.length 46 (row TIns.cells v32.fCode), .row 0 6 1 32 (fun _ => [.str v10.fName, .own 7 0 0 v10.fParams.length, .own 8 0 0 v10.fUses.length, .own 9 0 0 v10.fSlots.length, .bool v10.fGen, .own 10 0 0 v10.fCode.length])] (.d (.d ⟨rfl, _, rfl, (bk h fun v38 hv39 h => (pcS (ok_l_heldFunc hv39) ⟨.agg_l ⟨.s, (.rx (by first | rfl | simp [hl23, hl24, hl25, hl26, hl34, hl35, hl36, hl37])), (.rx (by first | rfl | simp [hl23, hl24, hl25, hl26, hl34, hl35, hl36, hl37])), (.rx (by first | rfl | simp [hl23, hl24, hl25, hl26, hl34, hl35, hl36, hl37])), .b, (.rx (by first | rfl | simp [hl23, hl24, hl25, hl26, hl34, hl35, hl36, hl37])), ⟨⟩⟩, .i, ⟨⟩⟩ (.d (.d (sD h (fun hb40 h => ?_) (fun hb40 h => ?_))))))⟩))
 exact .d (eB h)
 refine .d (.d (sN h (fun hb41 h => ?_) (fun hb41 h => ?_)))
 exact .d (eB h)
 refine .d ⟨rfl, _, rfl, (bk h fun v42 hv43 h => (pcP (ok_l_toFunc hv43) (bk h fun v44 hv45 h => (pcF (ok_i_OptimizeFunc hv45) (.agg [.str v44.fName, .own 12 0 0 v44.fParams.length, .own 13 0 0 v44.fUses.length, .own 14 0 0 v44.fSlots.length, .bool v44.fGen, .own 15 0 0 v44.fCode.length]) [.row 0 6 1 26 (fun _ => a0.lit), .row 0 6 1 32 (fun _ => v6.lit), .row 0 2 v21.fParams.length 70 (row TParam.cells v21.fParams), .row 0 2 v21.fUses.length 70 (row TParam.cells v21.fUses), .row 0 1 v21.fSlots.length 9 (row cS v21.fSlots), .row 0 5 v21.fCode.length 46 (row TIns.cells v21.fCode), .row 0 6 1 32 (fun _ => [.str v8.fName, .own 2 0 0 v8.fParams.length, .own 3 0 0 v8.fUses.length, .own 4 0 0 v8.fSlots.length, .bool v8.fGen, .own 5 0 0 v8.fCode.length]), .row 0 2 v32.fParams.length 70 (row TParam.cells v32.fParams), .row 0 2 v32.fUses.length 70 (row TParam.cells v32.fUses), .row 0 1 v32.fSlots.length 9 (row cS v32.fSlots), .row 0 5 v32.fCode.length 46 (row TIns.cells v32.fCode), .row 0 6 1 32 (fun _ => [.str v10.fName, .own 7 0 0 v10.fParams.length, .own 8 0 0 v10.fUses.length, .own 9 0 0 v10.fSlots.length, .bool v10.fGen, .own 10 0 0 v10.fCode.length]), .row 0 2 v44.fParams.length 70 (row TParam.cells v44.fParams), .row 0 2 v44.fUses.length 70 (row TParam.cells v44.fUses), .row 0 1 v44.fSlots.length 9 (row cS v44.fSlots), .row 0 5 v44.fCode.length 46 (row TIns.cells v44.fCode)] ⟨rfl, _, fun _ => [.str v44.fName, .own 12 0 0 v44.fParams.length, .own 13 0 0 v44.fUses.length, .own 14 0 0 v44.fSlots.length, .bool v44.fGen, .own 15 0 0 v44.fCode.length], rfl, one_set rfl, (.d (.d ⟨rfl, _, rfl, ⟨rfl, _, rfl, (bk h fun v46 hv47 h => (pcS (ok_l_eqFunc hv47) ⟨.agg_l ⟨.s, .r, .r, .r, .b, .r, ⟨⟩⟩, .agg_l ⟨.s, .l, .l, .l, .b, .l, ⟨⟩⟩, ⟨⟩⟩ (sVn h (fun hb48 h => ?_) (fun hb48 h => ?_))))⟩⟩))⟩))))⟩
 exact .d (eB h)
 refine .d (.d ⟨rfl, _, rfl, (bk h fun v49 hv50 h => (pcS (ok_l_heldFunc hv50) ⟨.agg_l ⟨.s, (.rx (by first | rfl | simp [hl23, hl24, hl25, hl26, hl34, hl35, hl36, hl37])), (.rx (by first | rfl | simp [hl23, hl24, hl25, hl26, hl34, hl35, hl36, hl37])), (.rx (by first | rfl | simp [hl23, hl24, hl25, hl26, hl34, hl35, hl36, hl37])), .b, (.rx (by first | rfl | simp [hl23, hl24, hl25, hl26, hl34, hl35, hl36, hl37])), ⟨⟩⟩, .i, ⟨⟩⟩ (.d (.d (sD h (fun hb51 h => ?_) (fun hb51 h => ?_))))))⟩)
 exact .d (eB h)
 refine .d (.d (sN h (fun hb52 h => ?_) (fun hb52 h => ?_)))
 exact .d (eB h)
 exact .d (eB h)
end Go.Am
