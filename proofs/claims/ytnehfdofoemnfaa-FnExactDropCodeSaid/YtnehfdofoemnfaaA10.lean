/- Models of Go functions, and their walks. (Printed by tools/mg.py.) -/
import Derived.Test.YtnehfdofoemnfaaH3
set_option linter.unusedVariables false
set_option linter.unusedSimpArgs false
set_option maxRecDepth 100000
namespace Go.Am
open Go Go.RowKit Go.Proofs
def m_l_FnExactThreadCode (a0 : TFunc) : Option (Bool) :=
 m_l_szFunc a0 1048576 >>= fun v1 =>
 (if v1 < 0 then
 some true
 else
 m_l_toFunc a0 >>= fun v4 =>
 m_s_ThreadCode v4 >>= fun v6 =>
 m_l_toFunc a0 >>= fun v8 =>
 m_i_ThreadCode v8 >>= fun v10 =>
 m_l_eqFunc v10 v6 >>= fun v12 =>
 (if v12 = true then
 m_l_toFunc a0 >>= fun v15 =>
 m_l_eqFunc v8 v15 >>= fun v17 =>
 (if v17 = true then
 m_l_markFunc v8 1 >>= fun (v20, v21) =>
 (if v20 < 0 then
 some false
 else
 m_l_eqFunc v10 v6 >>= fun v28 =>
 (if v28 = true then
 m_l_markFunc v10 1 >>= fun (v31, v32) =>
 m_l_heldFunc (TFunc.mk v10.fName v32.fParams v32.fUses v32.fSlots v10.fGen v32.fCode) 1 >>= fun v38 =>
 (if v38 < 0 then
 some false
 else
 (if v38 = v31 then
 m_l_toFunc a0 >>= fun v42 =>
 m_i_ThreadCode v42 >>= fun v44 =>
 m_l_eqFunc v44 v6 >>= fun v46 =>
 (if v46 = true then
 m_l_heldFunc (TFunc.mk v10.fName v32.fParams v32.fUses v32.fSlots v10.fGen v32.fCode) 1 >>= fun v49 =>
 (if v49 < 0 then
 some false
 else
 (if v49 = v31 then
 some true
 else
 some false))
 else
 some false)
 else
 some false))
 else
 some false))
 else
 some false)
 else
 some false))
theorem ok_l_FnExactThreadCode {a0 : TFunc} {r : Bool} (h : m_l_FnExactThreadCode a0 = some r) : ACall Try.prog 5 [.agg a0.lit] [] (fun res h => res = .bool r ∧ h = []) := by
 refine vc1 Try.func5 ?_
 unfold m_l_FnExactThreadCode at h
 refine .d (.d (.d ⟨rfl, _, rfl, (bk h fun v1 hv2 h => (pcP (ok_l_szFunc hv2) (.d (.d (sD h (fun hb3 h => ?_) (fun hb3 h => ?_))))))⟩))
 exact .d (eB h)
 refine .d ⟨rfl, _, rfl, (bk h fun v4 hv5 h => (pcP (ok_l_toFunc hv5) (bk h fun v6 hv7 h => (pcP (ok_s_ThreadCode hv7) ⟨rfl, _, fun _ => [.str v6.fName, sl 2 TParam.cells v6.fParams, sl 2 TParam.cells v6.fUses, sl 1 cS v6.fSlots, .bool v6.fGen, sl 5 TIns.cells v6.fCode], rfl, one_set rfl, (.d ⟨rfl, _, rfl, (bk h fun v8 hv9 h => (pcF (own_l_toFunc hv9) (.agg [.str v8.fName, .own 2 0 0 v8.fParams.length, .own 3 0 0 v8.fUses.length, .own 4 0 0 v8.fSlots.length, .bool v8.fGen, .own 5 0 0 v8.fCode.length]) [.row 0 6 1 26 (fun _ => a0.lit), .row 0 6 1 33 (fun _ => v6.lit), .row 0 2 v8.fParams.length 75 (row TParam.cells v8.fParams), .row 0 2 v8.fUses.length 75 (row TParam.cells v8.fUses), .row 0 1 v8.fSlots.length 9 (row cS v8.fSlots), .row 0 5 v8.fCode.length 53 (row TIns.cells v8.fCode)] ⟨rfl, _, fun _ => [.str v8.fName, .own 2 0 0 v8.fParams.length, .own 3 0 0 v8.fUses.length, .own 4 0 0 v8.fSlots.length, .bool v8.fGen, .own 5 0 0 v8.fCode.length], rfl, one_set rfl, (.d ⟨rfl, _, rfl, (bk h fun v10 hv11 h => ?_)⟩)⟩))⟩)⟩))))⟩
 refine pcFS (ok_i_ThreadCode hv11) ⟨.agg_l ⟨.s, .r, .r, .r, .b, .r, ⟨⟩⟩, ⟨⟩⟩ (.agg [.str v10.fName, .own 7 0 0 v10.fParams.length, .own 8 0 0 v10.fUses.length, .own 9 0 0 v10.fSlots.length, .bool v10.fGen, .own 10 0 0 v10.fCode.length]) [.row 0 6 1 26 (fun _ => a0.lit), .row 0 6 1 33 (fun _ => v6.lit), .row 0 2 v8.fParams.length 75 (row TParam.cells v8.fParams), .row 0 2 v8.fUses.length 75 (row TParam.cells v8.fUses), .row 0 1 v8.fSlots.length 9 (row cS v8.fSlots), .row 0 5 v8.fCode.length 53 (row TIns.cells v8.fCode), .row 0 6 1 33 (fun _ => [.str v8.fName, .own 2 0 0 v8.fParams.length, .own 3 0 0 v8.fUses.length, .own 4 0 0 v8.fSlots.length, .bool v8.fGen, .own 5 0 0 v8.fCode.length]), .row 0 2 v10.fParams.length 75 (row TParam.cells v10.fParams), .row 0 2 v10.fUses.length 75 (row TParam.cells v10.fUses), .row 0 1 v10.fSlots.length 9 (row cS v10.fSlots), .row 0 5 v10.fCode.length 53 (row TIns.cells v10.fCode)] (flatL_cons (flatO_row (fun _ => rfl)) (flatL_cons (flatO_row (fun _ => rfl)) (flatL_cons (flatO_row (fun _ => rfl)) (flatL_cons (flatO_row (fun _ => rfl)) flatL_nil)))) ⟨rfl, _, fun _ => [.str v10.fName, .own 7 0 0 v10.fParams.length, .own 8 0 0 v10.fUses.length, .own 9 0 0 v10.fSlots.length, .bool v10.fGen, .own 10 0 0 v10.fCode.length], rfl, one_set rfl, (.d (.d ⟨rfl, _, rfl, ⟨rfl, _, rfl, (bk h fun v12 hv13 h => (pcS (ok_l_eqFunc hv13) ⟨.agg_l ⟨.s, .r, .r, .r, .b, .r, ⟨⟩⟩, .agg_l ⟨.s, .l, .l, .l, .b, .l, ⟨⟩⟩, ⟨⟩⟩ (sVn h (fun hb14 h => ?_) (fun hb14 h => ?_))))⟩⟩))⟩
 exact .d (eB h)
 refine .d (.d (.float [(0, true), (1, true), (2, false), (3, false), (4, true)] (by kernel_rfl) ?_))
 refine ⟨rfl, _, rfl, ⟨rfl, _, rfl, (bk h fun v15 hv16 h => (pcP (ok_l_toFunc hv16) ⟨rfl, (bk h fun v17 hv18 h => (pcS (ok_l_eqFunc hv18) ⟨.agg_l ⟨.s, .r, .r, .r, .b, .r, ⟨⟩⟩, .agg_l ⟨.s, .l, .l, .l, .b, .l, ⟨⟩⟩, ⟨⟩⟩ (sVn h (fun hb19 h => ?_) (fun hb19 h => ?_))))⟩))⟩⟩
 exact .d (eB h)
 refine .d (.d ⟨rfl, _, rfl, ?_⟩)
 obtain ⟨⟨v20, v21⟩, hv22, h⟩ := bd h
 obtain ⟨hl23, hl24, hl25, hl26⟩ := markFunc_len hv22
 refine pcO (ok_l_markFunc (g1000 := 0) (g1001 := 0) (g1002 := 0) (g1003 := 0) hv22) [2, 3, 4, 5] ⟨ov, ov, ov, ov, ⟨⟩⟩ (.int .i64 v20) [.row 0 6 1 26 (fun _ => a0.lit), .row 0 6 1 33 (fun _ => v6.lit), .row 0 2 v21.fParams.length 75 (row TParam.cells v21.fParams), .row 0 2 v21.fUses.length 75 (row TParam.cells v21.fUses), .row 0 1 v21.fSlots.length 9 (row cS v21.fSlots), .row 0 5 v21.fCode.length 53 (row TIns.cells v21.fCode), .row 0 6 1 33 (fun _ => [.str v8.fName, .own 2 0 0 v8.fParams.length, .own 3 0 0 v8.fUses.length, .own 4 0 0 v8.fSlots.length, .bool v8.fGen, .own 5 0 0 v8.fCode.length]), .row 0 2 v10.fParams.length 75 (row TParam.cells v10.fParams), .row 0 2 v10.fUses.length 75 (row TParam.cells v10.fUses), .row 0 1 v10.fSlots.length 9 (row cS v10.fSlots), .row 0 5 v10.fCode.length 53 (row TIns.cells v10.fCode), .row 0 6 1 33 (fun _ => [.str v10.fName, .own 7 0 0 v10.fParams.length, .own 8 0 0 v10.fUses.length, .own 9 0 0 v10.fSlots.length, .bool v10.fGen, .own 10 0 0 v10.fCode.length])] (.d (.d (sD h (fun hb27 h => ?_) (fun hb27 h => ?_))))
 exact .t (.t (.t (.t (.t (.d (eB h))))))
 refine ⟨rfl, _, rfl, (.f ⟨rfl, _, rfl, (.f (bk h fun v28 hv29 h => (pcS (ok_l_eqFunc hv29) ⟨.agg_l ⟨.s, .r, .r, .r, .b, .r, ⟨⟩⟩, .agg_l ⟨.s, .l, .l, .l, .b, .l, ⟨⟩⟩, ⟨⟩⟩ (.f (.f (sVn h (fun hb30 h => ?_) (fun hb30 h => ?_)))))))⟩)⟩
 exact .d (eB h)
 refine .d (.d ⟨rfl, _, rfl, ?_⟩)
 obtain ⟨⟨v31, v32⟩, hv33, h⟩ := bd h
 obtain ⟨hl34, hl35, hl36, hl37⟩ := markFunc_len hv33
 refine pcO (ok_l_markFunc (g1000 := 0) (g1001 := 0) (g1002 := 0) (g1003 := 0) hv33) [7, 8, 9, 10] ⟨ov, ov, ov, ov, ⟨⟩⟩ (.int .i64 v31) [.row 0 6 1 26 (fun _ => a0.lit), .row 0 6 1 33 (fun _ => v6.lit), .row 0 2 v21.fParams.length 75 (row TParam.cells v21.fParams), .row 0 2 v21.fUses.length 75 (row TParam.cells v21.fUses), .row 0 1 v21.fSlots.length 9 (row cS v21.fSlots), .row 0 5 v21.fCode.length 53 (row TIns.cells v21.fCode), .row 0 6 1 33 (fun _ => [.str v8.fName, .own 2 0 0 v8.fParams.length, .own 3 0 0 v8.fUses.length, .own 4 0 0 v8.fSlots.length, .bool v8.fGen, .own 5 0 0 v8.fCode.length]), .row 0 2 v32.fParams.length 75 (row TParam.cells v32.fParams), .row 0 2 v32.fUses.length 75 (row TParam.cells v32.fUses), .row 0 1 v32.fSlots.length 9 (row cS v32.fSlots), .row 0 5 v32.fCode.length 53 (row TIns.cells v32.fCode), .row 0 6 1 33 (fun _ => [.str v10.fName, .own 7 0 0 v10.fParams.length, .own 8 0 0 v10.fUses.length, .own 9 0 0 v10.fSlots.length, .bool v10.fGen, .own 10 0 0 v10.fCode.length])] (.d (.d ⟨rfl, _, rfl, (bk h fun v38 hv39 h => (pcS (ok_l_heldFunc hv39) ⟨.agg_l ⟨.s, (.rx (by first | rfl | simp [hl23, hl24, hl25, hl26, hl34, hl35, hl36, hl37])), (.rx (by first | rfl | simp [hl23, hl24, hl25, hl26, hl34, hl35, hl36, hl37])), (.rx (by first | rfl | simp [hl23, hl24, hl25, hl26, hl34, hl35, hl36, hl37])), .b, (.rx (by first | rfl | simp [hl23, hl24, hl25, hl26, hl34, hl35, hl36, hl37])), ⟨⟩⟩, .i, ⟨⟩⟩ (.d (.d (sD h (fun hb40 h => ?_) (fun hb40 h => ?_))))))⟩))
 exact .d (eB h)
 refine .d (.d (sN h (fun hb41 h => ?_) (fun hb41 h => ?_)))
 exact .d (eB h)
 refine .d ⟨rfl, _, rfl, (bk h fun v42 hv43 h => (pcP (ok_l_toFunc hv43) (bk h fun v44 hv45 h => (pcF (ok_i_ThreadCode hv45) (.agg [.str v44.fName, .own 12 0 0 v44.fParams.length, .own 13 0 0 v44.fUses.length, .own 14 0 0 v44.fSlots.length, .bool v44.fGen, .own 15 0 0 v44.fCode.length]) [.row 0 6 1 26 (fun _ => a0.lit), .row 0 6 1 33 (fun _ => v6.lit), .row 0 2 v21.fParams.length 75 (row TParam.cells v21.fParams), .row 0 2 v21.fUses.length 75 (row TParam.cells v21.fUses), .row 0 1 v21.fSlots.length 9 (row cS v21.fSlots), .row 0 5 v21.fCode.length 53 (row TIns.cells v21.fCode), .row 0 6 1 33 (fun _ => [.str v8.fName, .own 2 0 0 v8.fParams.length, .own 3 0 0 v8.fUses.length, .own 4 0 0 v8.fSlots.length, .bool v8.fGen, .own 5 0 0 v8.fCode.length]), .row 0 2 v32.fParams.length 75 (row TParam.cells v32.fParams), .row 0 2 v32.fUses.length 75 (row TParam.cells v32.fUses), .row 0 1 v32.fSlots.length 9 (row cS v32.fSlots), .row 0 5 v32.fCode.length 53 (row TIns.cells v32.fCode), .row 0 6 1 33 (fun _ => [.str v10.fName, .own 7 0 0 v10.fParams.length, .own 8 0 0 v10.fUses.length, .own 9 0 0 v10.fSlots.length, .bool v10.fGen, .own 10 0 0 v10.fCode.length]), .row 0 2 v44.fParams.length 75 (row TParam.cells v44.fParams), .row 0 2 v44.fUses.length 75 (row TParam.cells v44.fUses), .row 0 1 v44.fSlots.length 9 (row cS v44.fSlots), .row 0 5 v44.fCode.length 53 (row TIns.cells v44.fCode)] ⟨rfl, _, fun _ => [.str v44.fName, .own 12 0 0 v44.fParams.length, .own 13 0 0 v44.fUses.length, .own 14 0 0 v44.fSlots.length, .bool v44.fGen, .own 15 0 0 v44.fCode.length], rfl, one_set rfl, (.d (.d ⟨rfl, _, rfl, ⟨rfl, _, rfl, (bk h fun v46 hv47 h => (pcS (ok_l_eqFunc hv47) ⟨.agg_l ⟨.s, .r, .r, .r, .b, .r, ⟨⟩⟩, .agg_l ⟨.s, .l, .l, .l, .b, .l, ⟨⟩⟩, ⟨⟩⟩ (sVn h (fun hb48 h => ?_) (fun hb48 h => ?_))))⟩⟩))⟩))))⟩
 exact .d (eB h)
 refine .d (.d ⟨rfl, _, rfl, (bk h fun v49 hv50 h => (pcS (ok_l_heldFunc hv50) ⟨.agg_l ⟨.s, (.rx (by first | rfl | simp [hl23, hl24, hl25, hl26, hl34, hl35, hl36, hl37])), (.rx (by first | rfl | simp [hl23, hl24, hl25, hl26, hl34, hl35, hl36, hl37])), (.rx (by first | rfl | simp [hl23, hl24, hl25, hl26, hl34, hl35, hl36, hl37])), .b, (.rx (by first | rfl | simp [hl23, hl24, hl25, hl26, hl34, hl35, hl36, hl37])), ⟨⟩⟩, .i, ⟨⟩⟩ (.d (.d (sD h (fun hb51 h => ?_) (fun hb51 h => ?_))))))⟩)
 exact .d (eB h)
 refine .d (.d (sN h (fun hb52 h => ?_) (fun hb52 h => ?_)))
 exact .d (eB h)
 exact .d (eB h)
def m_l_FnExactDropCode (a0 : TFunc) : Option (Bool) :=
 m_l_szFunc a0 1048576 >>= fun v1 =>
 (if v1 < 0 then
 some true
 else
 m_l_toFunc a0 >>= fun v4 =>
 m_s_DropCode v4 >>= fun (v6, v7) =>
 m_l_toFunc a0 >>= fun v9 =>
 m_i_DropCode v9 >>= fun (v11, v12) =>
 m_l_eqFunc v11 v6 >>= fun v14 =>
 (if v14 = true then
 m_l_eqIntS v12 v7 >>= fun v17 =>
 (if v17 = true then
 m_l_toFunc a0 >>= fun v20 =>
 m_l_eqFunc v9 v20 >>= fun v22 =>
 (if v22 = true then
 m_l_markFunc v9 1 >>= fun (v25, v26) =>
 (if v25 < 0 then
 some false
 else
 m_l_eqFunc v11 v6 >>= fun v33 =>
 (if v33 = true then
 m_l_eqIntS v12 v7 >>= fun v36 =>
 (if v36 = true then
 m_l_markFunc v11 1 >>= fun (v39, v40) =>
 m_l_markIntS v12 v39 >>= fun (v46, v47) =>
 m_l_heldFunc (TFunc.mk v11.fName v40.fParams v40.fUses v40.fSlots v11.fGen v40.fCode) 1 >>= fun v50 =>
 (if v50 < 0 then
 some false
 else
 m_l_heldIntS v47 v50 >>= fun v53 =>
 (if v53 < 0 then
 some false
 else
 (if v53 = v46 then
 m_l_toFunc a0 >>= fun v57 =>
 m_i_DropCode v57 >>= fun (v59, v60) =>
 m_l_eqFunc v59 v6 >>= fun v62 =>
 (if v62 = true then
 m_l_eqIntS v60 v7 >>= fun v65 =>
 (if v65 = true then
 m_l_heldFunc (TFunc.mk v11.fName v40.fParams v40.fUses v40.fSlots v11.fGen v40.fCode) 1 >>= fun v68 =>
 (if v68 < 0 then
 some false
 else
 m_l_heldIntS v47 v68 >>= fun v71 =>
 (if v71 < 0 then
 some false
 else
 (if v71 = v46 then
 some true
 else
 some false)))
 else
 some false)
 else
 some false)
 else
 some false)))
 else
 some false)
 else
 some false))
 else
 some false)
 else
 some false)
 else
 some false))
theorem ok_l_FnExactDropCode {a0 : TFunc} {r : Bool} (h : m_l_FnExactDropCode a0 = some r) : ACall Try.prog 6 [.agg a0.lit] [] (fun res h => res = .bool r ∧ h = []) := by
 refine vc1 Try.func6 ?_
 unfold m_l_FnExactDropCode at h
 refine .d (.d (.d ⟨rfl, _, rfl, (bk h fun v1 hv2 h => (pcP (ok_l_szFunc hv2) (.d (.d (sD h (fun hb3 h => ?_) (fun hb3 h => ?_))))))⟩))
 exact .d (eB h)
 refine .d ⟨rfl, _, rfl, (bk h fun v4 hv5 h => (pcP (ok_l_toFunc hv5) ?_))⟩
 obtain ⟨⟨v6, v7⟩, hv8, h⟩ := bd h
 refine pcP (ok_s_DropCode hv8) ⟨rfl, _, fun _ => [.str v6.fName, sl 2 TParam.cells v6.fParams, sl 2 TParam.cells v6.fUses, sl 1 cS v6.fSlots, .bool v6.fGen, sl 5 TIns.cells v6.fCode], rfl, one_set rfl, (.d ⟨rfl, _, rfl, (bk h fun v9 hv10 h => (pcF (own_l_toFunc hv10) (.agg [.str v9.fName, .own 2 0 0 v9.fParams.length, .own 3 0 0 v9.fUses.length, .own 4 0 0 v9.fSlots.length, .bool v9.fGen, .own 5 0 0 v9.fCode.length]) [.row 0 6 1 26 (fun _ => a0.lit), .row 0 6 1 33 (fun _ => v6.lit), .row 0 2 v9.fParams.length 75 (row TParam.cells v9.fParams), .row 0 2 v9.fUses.length 75 (row TParam.cells v9.fUses), .row 0 1 v9.fSlots.length 9 (row cS v9.fSlots), .row 0 5 v9.fCode.length 53 (row TIns.cells v9.fCode)] ⟨rfl, _, fun _ => [.str v9.fName, .own 2 0 0 v9.fParams.length, .own 3 0 0 v9.fUses.length, .own 4 0 0 v9.fSlots.length, .bool v9.fGen, .own 5 0 0 v9.fCode.length], rfl, one_set rfl, (.d ⟨rfl, _, rfl, ?_⟩)⟩))⟩)⟩
 obtain ⟨⟨v11, v12⟩, hv13, h⟩ := bd h
 refine pcFS (ok_i_DropCode hv13) ⟨.agg_l ⟨.s, .r, .r, .r, .b, .r, ⟨⟩⟩, ⟨⟩⟩ (.tup [.agg [.str v11.fName, .own 7 0 0 v11.fParams.length, .own 8 0 0 v11.fUses.length, .own 9 0 0 v11.fSlots.length, .bool v11.fGen, .own 10 0 0 v11.fCode.length], .own 11 0 0 v12.length]) [.row 0 6 1 26 (fun _ => a0.lit), .row 0 6 1 33 (fun _ => v6.lit), .row 0 2 v9.fParams.length 75 (row TParam.cells v9.fParams), .row 0 2 v9.fUses.length 75 (row TParam.cells v9.fUses), .row 0 1 v9.fSlots.length 9 (row cS v9.fSlots), .row 0 5 v9.fCode.length 53 (row TIns.cells v9.fCode), .row 0 6 1 33 (fun _ => [.str v9.fName, .own 2 0 0 v9.fParams.length, .own 3 0 0 v9.fUses.length, .own 4 0 0 v9.fSlots.length, .bool v9.fGen, .own 5 0 0 v9.fCode.length]), .row 0 2 v11.fParams.length 75 (row TParam.cells v11.fParams), .row 0 2 v11.fUses.length 75 (row TParam.cells v11.fUses), .row 0 1 v11.fSlots.length 9 (row cS v11.fSlots), .row 0 5 v11.fCode.length 53 (row TIns.cells v11.fCode), .row 0 1 v12.length 3 (row cI v12)] (flatL_cons (flatO_row (fun _ => rfl)) (flatL_cons (flatO_row (fun _ => rfl)) (flatL_cons (flatO_row (fun _ => rfl)) (flatL_cons (flatO_row (fun _ => rfl)) (flatL_cons (flatO_row (fun _ => rfl)) flatL_nil))))) ⟨rfl, _, fun _ => [.str v11.fName, .own 7 0 0 v11.fParams.length, .own 8 0 0 v11.fUses.length, .own 9 0 0 v11.fSlots.length, .bool v11.fGen, .own 10 0 0 v11.fCode.length], rfl, one_set rfl, (.d (.d ⟨rfl, _, rfl, ⟨rfl, _, rfl, (bk h fun v14 hv15 h => (pcS (ok_l_eqFunc hv15) ⟨.agg_l ⟨.s, .r, .r, .r, .b, .r, ⟨⟩⟩, .agg_l ⟨.s, .l, .l, .l, .b, .l, ⟨⟩⟩, ⟨⟩⟩ (sVn h (fun hb16 h => ?_) (fun hb16 h => ?_))))⟩⟩))⟩
 exact .t (.t (.t (.t (.t (.d (eB h))))))
 refine .f (.f (bk h fun v17 hv18 h => (pcS (ok_l_eqIntS hv18) ⟨.r, .l, ⟨⟩⟩ (.f (.f (sVn h (fun hb19 h => ?_) (fun hb19 h => ?_)))))))
 exact .d (eB h)
 refine .d (.d (.float [(0, true), (1, true), (2, false), (3, false), (4, true)] (by kernel_rfl) ?_))
 refine ⟨rfl, _, rfl, ⟨rfl, _, rfl, (bk h fun v20 hv21 h => (pcP (ok_l_toFunc hv21) ⟨rfl, (bk h fun v22 hv23 h => (pcS (ok_l_eqFunc hv23) ⟨.agg_l ⟨.s, .r, .r, .r, .b, .r, ⟨⟩⟩, .agg_l ⟨.s, .l, .l, .l, .b, .l, ⟨⟩⟩, ⟨⟩⟩ (sVn h (fun hb24 h => ?_) (fun hb24 h => ?_))))⟩))⟩⟩
 exact .d (eB h)
 refine .d (.d ⟨rfl, _, rfl, ?_⟩)
 obtain ⟨⟨v25, v26⟩, hv27, h⟩ := bd h
 obtain ⟨hl28, hl29, hl30, hl31⟩ := markFunc_len hv27
 refine pcO (ok_l_markFunc (g1000 := 0) (g1001 := 0) (g1002 := 0) (g1003 := 0) hv27) [2, 3, 4, 5] ⟨ov, ov, ov, ov, ⟨⟩⟩ (.int .i64 v25) [.row 0 6 1 26 (fun _ => a0.lit), .row 0 6 1 33 (fun _ => v6.lit), .row 0 2 v26.fParams.length 75 (row TParam.cells v26.fParams), .row 0 2 v26.fUses.length 75 (row TParam.cells v26.fUses), .row 0 1 v26.fSlots.length 9 (row cS v26.fSlots), .row 0 5 v26.fCode.length 53 (row TIns.cells v26.fCode), .row 0 6 1 33 (fun _ => [.str v9.fName, .own 2 0 0 v9.fParams.length, .own 3 0 0 v9.fUses.length, .own 4 0 0 v9.fSlots.length, .bool v9.fGen, .own 5 0 0 v9.fCode.length]), .row 0 2 v11.fParams.length 75 (row TParam.cells v11.fParams), .row 0 2 v11.fUses.length 75 (row TParam.cells v11.fUses), .row 0 1 v11.fSlots.length 9 (row cS v11.fSlots), .row 0 5 v11.fCode.length 53 (row TIns.cells v11.fCode), .row 0 1 v12.length 3 (row cI v12), .row 0 6 1 33 (fun _ => [.str v11.fName, .own 7 0 0 v11.fParams.length, .own 8 0 0 v11.fUses.length, .own 9 0 0 v11.fSlots.length, .bool v11.fGen, .own 10 0 0 v11.fCode.length])] (.d (.d (sD h (fun hb32 h => ?_) (fun hb32 h => ?_))))
 exact .t (.t (.t (.t (.t (.t (.t (.t (.t (.t (.d (eB h)))))))))))
 refine ⟨rfl, _, rfl, (.f ⟨rfl, _, rfl, (.f (bk h fun v33 hv34 h => (pcS (ok_l_eqFunc hv34) ⟨.agg_l ⟨.s, .r, .r, .r, .b, .r, ⟨⟩⟩, .agg_l ⟨.s, .l, .l, .l, .b, .l, ⟨⟩⟩, ⟨⟩⟩ (.f (.f (sVn h (fun hb35 h => ?_) (fun hb35 h => ?_)))))))⟩)⟩
 exact .t (.t (.t (.t (.t (.d (eB h))))))
 refine .f (.f (bk h fun v36 hv37 h => (pcS (ok_l_eqIntS hv37) ⟨.r, .l, ⟨⟩⟩ (.f (.f (sVn h (fun hb38 h => ?_) (fun hb38 h => ?_)))))))
 exact .d (eB h)
 refine .d (.d ⟨rfl, _, rfl, ?_⟩)
 obtain ⟨⟨v39, v40⟩, hv41, h⟩ := bd h
 obtain ⟨hl42, hl43, hl44, hl45⟩ := markFunc_len hv41
 refine pcO (ok_l_markFunc (g1000 := 0) (g1001 := 0) (g1002 := 0) (g1003 := 0) hv41) [7, 8, 9, 10] ⟨ov, ov, ov, ov, ⟨⟩⟩ (.int .i64 v39) [.row 0 6 1 26 (fun _ => a0.lit), .row 0 6 1 33 (fun _ => v6.lit), .row 0 2 v26.fParams.length 75 (row TParam.cells v26.fParams), .row 0 2 v26.fUses.length 75 (row TParam.cells v26.fUses), .row 0 1 v26.fSlots.length 9 (row cS v26.fSlots), .row 0 5 v26.fCode.length 53 (row TIns.cells v26.fCode), .row 0 6 1 33 (fun _ => [.str v9.fName, .own 2 0 0 v9.fParams.length, .own 3 0 0 v9.fUses.length, .own 4 0 0 v9.fSlots.length, .bool v9.fGen, .own 5 0 0 v9.fCode.length]), .row 0 2 v40.fParams.length 75 (row TParam.cells v40.fParams), .row 0 2 v40.fUses.length 75 (row TParam.cells v40.fUses), .row 0 1 v40.fSlots.length 9 (row cS v40.fSlots), .row 0 5 v40.fCode.length 53 (row TIns.cells v40.fCode), .row 0 1 v12.length 3 (row cI v12), .row 0 6 1 33 (fun _ => [.str v11.fName, .own 7 0 0 v11.fParams.length, .own 8 0 0 v11.fUses.length, .own 9 0 0 v11.fSlots.length, .bool v11.fGen, .own 10 0 0 v11.fCode.length])] (.d ?_)
 obtain ⟨⟨v46, v47⟩, hv48, h⟩ := bd h
 obtain hl49 := markIntS_len hv48
 refine pcO (ok_l_markIntS (g1000 := 0) hv48) [11] ⟨ov, ⟨⟩⟩ (.int .i64 v46) [.row 0 6 1 26 (fun _ => a0.lit), .row 0 6 1 33 (fun _ => v6.lit), .row 0 2 v26.fParams.length 75 (row TParam.cells v26.fParams), .row 0 2 v26.fUses.length 75 (row TParam.cells v26.fUses), .row 0 1 v26.fSlots.length 9 (row cS v26.fSlots), .row 0 5 v26.fCode.length 53 (row TIns.cells v26.fCode), .row 0 6 1 33 (fun _ => [.str v9.fName, .own 2 0 0 v9.fParams.length, .own 3 0 0 v9.fUses.length, .own 4 0 0 v9.fSlots.length, .bool v9.fGen, .own 5 0 0 v9.fCode.length]), .row 0 2 v40.fParams.length 75 (row TParam.cells v40.fParams), .row 0 2 v40.fUses.length 75 (row TParam.cells v40.fUses), .row 0 1 v40.fSlots.length 9 (row cS v40.fSlots), .row 0 5 v40.fCode.length 53 (row TIns.cells v40.fCode), .row 0 1 v47.length 3 (row cI v47), .row 0 6 1 33 (fun _ => [.str v11.fName, .own 7 0 0 v11.fParams.length, .own 8 0 0 v11.fUses.length, .own 9 0 0 v11.fSlots.length, .bool v11.fGen, .own 10 0 0 v11.fCode.length])] (.d (.d ⟨rfl, _, rfl, (bk h fun v50 hv51 h => (pcS (ok_l_heldFunc hv51) ⟨.agg_l ⟨.s, (.rx (by first | rfl | simp [hl28, hl29, hl30, hl31, hl42, hl43, hl44, hl45, hl49])), (.rx (by first | rfl | simp [hl28, hl29, hl30, hl31, hl42, hl43, hl44, hl45, hl49])), (.rx (by first | rfl | simp [hl28, hl29, hl30, hl31, hl42, hl43, hl44, hl45, hl49])), .b, (.rx (by first | rfl | simp [hl28, hl29, hl30, hl31, hl42, hl43, hl44, hl45, hl49])), ⟨⟩⟩, .i, ⟨⟩⟩ (.d (.d (sD h (fun hb52 h => ?_) (fun hb52 h => ?_))))))⟩))
 exact .d (eB h)
 refine .d (bk h fun v53 hv54 h => (pcS (ok_l_heldIntS hv54) ⟨(.rx (by first | rfl | simp [hl28, hl29, hl30, hl31, hl42, hl43, hl44, hl45, hl49])), .i, ⟨⟩⟩ (.d (.d (sD h (fun hb55 h => ?_) (fun hb55 h => ?_))))))
 exact .d (eB h)
 refine .d (.d (sN h (fun hb56 h => ?_) (fun hb56 h => ?_)))
 exact .d (eB h)
 refine .d ⟨rfl, _, rfl, (bk h fun v57 hv58 h => (pcP (ok_l_toFunc hv58) ?_))⟩
 obtain ⟨⟨v59, v60⟩, hv61, h⟩ := bd h
 refine pcF (ok_i_DropCode hv61) (.tup [.agg [.str v59.fName, .own 13 0 0 v59.fParams.length, .own 14 0 0 v59.fUses.length, .own 15 0 0 v59.fSlots.length, .bool v59.fGen, .own 16 0 0 v59.fCode.length], .own 17 0 0 v60.length]) [.row 0 6 1 26 (fun _ => a0.lit), .row 0 6 1 33 (fun _ => v6.lit), .row 0 2 v26.fParams.length 75 (row TParam.cells v26.fParams), .row 0 2 v26.fUses.length 75 (row TParam.cells v26.fUses), .row 0 1 v26.fSlots.length 9 (row cS v26.fSlots), .row 0 5 v26.fCode.length 53 (row TIns.cells v26.fCode), .row 0 6 1 33 (fun _ => [.str v9.fName, .own 2 0 0 v9.fParams.length, .own 3 0 0 v9.fUses.length, .own 4 0 0 v9.fSlots.length, .bool v9.fGen, .own 5 0 0 v9.fCode.length]), .row 0 2 v40.fParams.length 75 (row TParam.cells v40.fParams), .row 0 2 v40.fUses.length 75 (row TParam.cells v40.fUses), .row 0 1 v40.fSlots.length 9 (row cS v40.fSlots), .row 0 5 v40.fCode.length 53 (row TIns.cells v40.fCode), .row 0 1 v47.length 3 (row cI v47), .row 0 6 1 33 (fun _ => [.str v11.fName, .own 7 0 0 v11.fParams.length, .own 8 0 0 v11.fUses.length, .own 9 0 0 v11.fSlots.length, .bool v11.fGen, .own 10 0 0 v11.fCode.length]), .row 0 2 v59.fParams.length 75 (row TParam.cells v59.fParams), .row 0 2 v59.fUses.length 75 (row TParam.cells v59.fUses), .row 0 1 v59.fSlots.length 9 (row cS v59.fSlots), .row 0 5 v59.fCode.length 53 (row TIns.cells v59.fCode), .row 0 1 v60.length 3 (row cI v60)] ⟨rfl, _, fun _ => [.str v59.fName, .own 13 0 0 v59.fParams.length, .own 14 0 0 v59.fUses.length, .own 15 0 0 v59.fSlots.length, .bool v59.fGen, .own 16 0 0 v59.fCode.length], rfl, one_set rfl, (.d (.d ⟨rfl, _, rfl, ⟨rfl, _, rfl, (bk h fun v62 hv63 h => (pcS (ok_l_eqFunc hv63) ⟨.agg_l ⟨.s, .r, .r, .r, .b, .r, ⟨⟩⟩, .agg_l ⟨.s, .l, .l, .l, .b, .l, ⟨⟩⟩, ⟨⟩⟩ (sVn h (fun hb64 h => ?_) (fun hb64 h => ?_))))⟩⟩))⟩
 exact .t (.t (.t (.t (.t (.d (eB h))))))
 refine .f (.f (bk h fun v65 hv66 h => (pcS (ok_l_eqIntS hv66) ⟨.r, .l, ⟨⟩⟩ (.f (.f (sVn h (fun hb67 h => ?_) (fun hb67 h => ?_)))))))
 exact .d (eB h)
 refine .d (.d ⟨rfl, _, rfl, (bk h fun v68 hv69 h => (pcS (ok_l_heldFunc hv69) ⟨.agg_l ⟨.s, (.rx (by first | rfl | simp [hl28, hl29, hl30, hl31, hl42, hl43, hl44, hl45, hl49])), (.rx (by first | rfl | simp [hl28, hl29, hl30, hl31, hl42, hl43, hl44, hl45, hl49])), (.rx (by first | rfl | simp [hl28, hl29, hl30, hl31, hl42, hl43, hl44, hl45, hl49])), .b, (.rx (by first | rfl | simp [hl28, hl29, hl30, hl31, hl42, hl43, hl44, hl45, hl49])), ⟨⟩⟩, .i, ⟨⟩⟩ (.d (.d (sD h (fun hb70 h => ?_) (fun hb70 h => ?_))))))⟩)
 exact .d (eB h)
 refine .d (bk h fun v71 hv72 h => (pcS (ok_l_heldIntS hv72) ⟨(.rx (by first | rfl | simp [hl28, hl29, hl30, hl31, hl42, hl43, hl44, hl45, hl49])), .i, ⟨⟩⟩ (.d (.d (sD h (fun hb73 h => ?_) (fun hb73 h => ?_))))))
 exact .d (eB h)
 refine .d (.d (sN h (fun hb74 h => ?_) (fun hb74 h => ?_)))
 exact .d (eB h)
 exact .d (eB h)
end Go.Am
