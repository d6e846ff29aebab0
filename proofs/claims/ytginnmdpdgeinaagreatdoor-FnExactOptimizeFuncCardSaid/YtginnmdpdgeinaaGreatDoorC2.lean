/- Models of Go functions, and their walks. (Printed by tools/mg.py.) -/
import Derived.Test.YtginnmdpdgeinaaGreatDoorC1
import Derived.Test.YtginnmdpdgeinaaGreatDoorA6
set_option linter.unusedVariables false
set_option linter.unusedSimpArgs false
set_option maxRecDepth 100000
namespace Go.Am
open Go Go.RowKit Go.Proofs
def m_i_FoldCode_L2 (a0 : TFunc) (v6 : List (Int × Bool)) (l12 : List TIns) (y13 : Int) : Option ((List TIns)) :=
 (if y13 < (a0.fCode.length : Int) then
 m_i_windowAt a0.fCode v6 y13 >>= fun v17 =>
 lfrom l12 y13 >>= fun l19 =>
 must (v17.length ≤ l19.length) >>= fun _ =>
 m_i_Max 1 (v17.length : Int) >>= fun v22 =>
 m_i_FoldCode_L2 a0 v6 (lcopy l12 (0 + y13.toNat) v17) (W64 (y13 + v22))
 else
 some l12)
partial_fixpoint
def m_i_FoldCode (a0 : TFunc) : Option (TFunc) :=
 m_i_copyFunc a0 >>= fun v1 =>
 m_i_IsFunc a0 >>= fun v3 =>
 (if v3 = true then
 m_i_targetSet a0 >>= fun v6 =>
 (
 m_i_FoldCode_L2 a0 v6 v1.fCode 0
 : Option ((List TIns))) >>= fun l8 =>
 some (TFunc.mk v1.fName v1.fParams v1.fUses v1.fSlots v1.fGen l8)
 else
 some v1)
theorem ok_i_FoldCode {a0 : TFunc} {r : TFunc} (h : m_i_FoldCode a0 = some r) : ACall Tryz.prog 12 [.agg a0.lit] [] (fun res h => res = .agg [.str r.fName, .own 0 0 0 r.fParams.length, .own 1 0 0 r.fUses.length, .own 2 0 0 r.fSlots.length, .bool r.fGen, .own 3 0 0 r.fCode.length] ∧ h = [.row 0 2 r.fParams.length 70 (row TParam.cells r.fParams), .row 0 2 r.fUses.length 70 (row TParam.cells r.fUses), .row 0 1 r.fSlots.length 9 (row cS r.fSlots), .row 0 5 r.fCode.length 46 (row TIns.cells r.fCode)]) := by
 refine vc1 Tryz.func12 ?_
 unfold m_i_FoldCode at h
 refine .d (.d ⟨rfl, _, rfl, (bk h fun v1 hv2 h => (pcF (own_i_copyFunc hv2) (.agg [.str v1.fName, .own 2 0 0 v1.fParams.length, .own 3 0 0 v1.fUses.length, .own 4 0 0 v1.fSlots.length, .bool v1.fGen, .own 5 0 0 v1.fCode.length]) [.row 0 6 1 32 (fun _ => a0.lit), .row 0 6 1 32 (fun _ => [.str [], .nils, .nils, .nils, .bool false, .nils]), .row 0 2 v1.fParams.length 70 (row TParam.cells v1.fParams), .row 0 2 v1.fUses.length 70 (row TParam.cells v1.fUses), .row 0 1 v1.fSlots.length 9 (row cS v1.fSlots), .row 0 5 v1.fCode.length 46 (row TIns.cells v1.fCode)] ⟨rfl, _, fun _ => [.str v1.fName, .own 2 0 0 v1.fParams.length, .own 3 0 0 v1.fUses.length, .own 4 0 0 v1.fSlots.length, .bool v1.fGen, .own 5 0 0 v1.fCode.length], rfl, one_set rfl, (.d (.d ⟨rfl, _, rfl, (bk h fun v3 hv4 h => (pcP (ok_i_IsFunc hv4) (sVn h (fun hb5 h => ?_) (fun hb5 h => ?_))))⟩))⟩))⟩)
 refine .d ⟨rfl, _, rfl, ⟨rfl, _, fun _ => [.str v1.fName, .own 2 0 0 v1.fParams.length, .own 3 0 0 v1.fUses.length, .own 4 0 0 v1.fSlots.length, .bool v1.fGen, .own 5 0 0 v1.fCode.length], rfl, one_set rfl, ?_⟩⟩
 obtain rfl := si h
 exact ⟨rfl, _, rfl, (en [2, 3, 4, 5] ⟨rfl, rfl⟩ (.agg_l ⟨.s, .o, .o, .o, .b, .o, ⟨⟩⟩) ⟨nw, nw, nw, nw, ⟨⟩⟩)⟩
 refine .d ⟨rfl, _, rfl, (bk h fun v6 hv7 h => (pcF (ok_i_targetSet hv7) (.omp 7) [.row 0 6 1 32 (fun _ => a0.lit), .row 0 6 1 32 (fun _ => [.str [], .nils, .nils, .nils, .bool false, .nils]), .row 0 2 v1.fParams.length 70 (row TParam.cells v1.fParams), .row 0 2 v1.fUses.length 70 (row TParam.cells v1.fUses), .row 0 1 v1.fSlots.length 9 (row cS v1.fSlots), .row 0 5 v1.fCode.length 46 (row TIns.cells v1.fCode), .row 0 6 1 32 (fun _ => [.str v1.fName, .own 2 0 0 v1.fParams.length, .own 3 0 0 v1.fUses.length, .own 4 0 0 v1.fSlots.length, .bool v1.fGen, .own 5 0 0 v1.fCode.length]), .row 0 2 v6.length 50 (row (mc (PV.int .i64) (PV.bool)) v6)] ?_))⟩
 obtain ⟨o9, ho10, hk11⟩ := bd h
 replace h := ho10
 refine .cut (fun σ η => ∃ l8, l8 = o9 ∧ σ = [(2, .optr 0 0 0 0), (3, .optr 1 0 0 0)] ∧ η = [.row 0 6 1 32 (fun _ => [.str [], .nils, .nils, .nils, .bool false, .nils]), .row 0 6 1 32 (fun _ => [.str v1.fName, .own 2 0 0 v1.fParams.length, .own 3 0 0 v1.fUses.length, .own 4 0 0 v1.fSlots.length, .bool v1.fGen, .own 5 0 0 l8.length]), .row 0 2 v1.fParams.length 70 (row TParam.cells v1.fParams), .row 0 2 v1.fUses.length 70 (row TParam.cells v1.fUses), .row 0 1 v1.fSlots.length 9 (row cS v1.fSlots), .row 0 5 l8.length 46 (row TIns.cells l8)]) ?_ ?_
 refine .d ?_
 refine le (m_i_FoldCode_L2.partial_correctness a0 v6 (motive := fun l12 y13 o24 => o9 = o24 → LoopAt _ _ [(1, .optr 0 0 0 0), (2, .optr 1 0 0 0), (3, .optr 2 0 0 0), (4, .omp 7), (5, .int .i64 y13)] [.row 0 6 1 32 (fun _ => a0.lit), .row 0 6 1 32 (fun _ => [.str [], .nils, .nils, .nils, .bool false, .nils]), .row 0 6 1 32 (fun _ => [.str v1.fName, .own 3 0 0 v1.fParams.length, .own 4 0 0 v1.fUses.length, .own 5 0 0 v1.fSlots.length, .bool v1.fGen, .own 6 0 0 l12.length]), .row 0 2 v1.fParams.length 70 (row TParam.cells v1.fParams), .row 0 2 v1.fUses.length 70 (row TParam.cells v1.fUses), .row 0 1 v1.fSlots.length 9 (row cS v1.fSlots), .row 0 5 l12.length 46 (row TIns.cells l12), .row 0 2 v6.length 50 (row (mc (PV.int .i64) (PV.bool)) v6)]) ?_ v1.fCode 0 o9 h rfl) (tk [0, 1, 6, 2, 3, 4, 5, 7] ⟨.p, .p, .p, .m, .i, ⟨⟩⟩ ⟨(nbp rfl), (nb rfl ⟨.s, .nils, .nils, .nils, .b, .nils, ⟨⟩⟩), (nb rfl ⟨.s, .o, .o, .o, .b, .o, ⟨⟩⟩), nw, nw, nw, nw, nw, ⟨⟩⟩)
 intro F15 ih14 l12 y13 o24 h hr25
 subst hr25
 refine LoopAt.round (.d (.d ⟨rfl, ⟨rfl, _, rfl, (sD h (fun hb16 h => ?_) (fun hb16 h => ?_))⟩⟩))
 refine .d ⟨rfl, ⟨rfl, _, rfl, (bk h fun v17 hv18 h => (pcO (ok_i_windowAt (g1000 := 0) hv18) [7] ⟨ov, ⟨⟩⟩ (sl 5 TIns.cells v17) [.row 0 6 1 32 (fun _ => a0.lit), .row 0 6 1 32 (fun _ => [.str [], .nils, .nils, .nils, .bool false, .nils]), .row 0 6 1 32 (fun _ => [.str v1.fName, .own 3 0 0 v1.fParams.length, .own 4 0 0 v1.fUses.length, .own 5 0 0 v1.fSlots.length, .bool v1.fGen, .own 6 0 0 l12.length]), .row 0 2 v1.fParams.length 70 (row TParam.cells v1.fParams), .row 0 2 v1.fUses.length 70 (row TParam.cells v1.fUses), .row 0 1 v1.fSlots.length 9 (row cS v1.fSlots), .row 0 5 l12.length 46 (row TIns.cells l12), .row 0 2 v6.length 50 (row (mc (PV.int .i64) (PV.bool)) v6)] (.d ⟨rfl, ⟨rfl, _, rfl, (bk h fun l19 hx20 h => ⟨rfl, trivial, lfrom_bd hx20, _, l19.length, rfl, lfrom_len hx20, ?_⟩)⟩⟩)))⟩⟩
 obtain ⟨_, hm21, h⟩ := bd h
 exact ⟨rfl, must_some hm21, row TIns.cells (lcopy l12 (0 + y13.toNat) v17), lcopy_row src_slc rfl, (bk h fun v22 hv23 h => (pcP (ok_i_Max hv23) (lg (ih14 _ _ _ h rfl) (tk [0, 1, 2, 3, 4, 5, 6, 7] ⟨.p, .p, .p, .m, .i, ⟨⟩⟩ ⟨(nbp rfl), (nb rfl ⟨.s, .nils, .nils, .nils, .b, .nils, ⟨⟩⟩), (nb rfl ⟨.s, .o, .o, .o, .b, (.ox ln), ⟨⟩⟩), nw, nw, nw, (nwx rfl ln), nw, ⟨⟩⟩))))⟩
 exact ct ⟨_, si h, rfl, rfl⟩ (tk [1, 2, 3, 4, 5, 6] ⟨.p, .p, ⟨⟩⟩ ⟨(nb rfl ⟨.s, .nils, .nils, .nils, .b, .nils, ⟨⟩⟩), (nb rfl ⟨.s, .o, .o, .o, .b, .o, ⟨⟩⟩), nw, nw, nw, nw, ⟨⟩⟩)
 rintro _ _ ⟨l8, rfl, rfl, rfl⟩
 replace h := hk11
 refine .d ⟨rfl, _, rfl, ⟨rfl, _, fun _ => [.str v1.fName, .own 2 0 0 v1.fParams.length, .own 3 0 0 v1.fUses.length, .own 4 0 0 v1.fSlots.length, .bool v1.fGen, .own 5 0 0 l8.length], rfl, one_set rfl, ?_⟩⟩
 obtain rfl := si h
 exact ⟨rfl, _, rfl, (en [2, 3, 4, 5] ⟨rfl, rfl⟩ (.agg_l ⟨.s, .o, .o, .o, .b, .o, ⟨⟩⟩) ⟨nw, nw, nw, nw, ⟨⟩⟩)⟩
def m_s_FoldCode_L14 (v17 : List TIns) (y13 : Int) (l23 : List TIns) (y24 : Int) : Option ((List TIns)) :=
 (if y24 < (v17.length : Int) then
 idx v17 y24 >>= fun x28 =>
 idx l23 (W64 (y13 + y24)) >>= fun x30 =>
 m_s_FoldCode_L14 v17 y13 (l23.set ((W64 (y13 + y24)).toNat) x28) (W64 (y24 + 1))
 else
 some l23)
partial_fixpoint
def m_s_FoldCode_L12 (a0 : TFunc) (v6 : List Bool) (l12 : List TIns) (y13 : Int) : Option ((List TIns)) :=
 (if y13 < (a0.fCode.length : Int) then
 m_s_l30Window a0.fCode v6 y13 >>= fun v17 =>
 (
 m_s_FoldCode_L14 v17 y13 l12 0
 : Option ((List TIns))) >>= fun l19 =>
 m_s_Max 1 (v17.length : Int) >>= fun v34 =>
 m_s_FoldCode_L12 a0 v6 l19 (W64 (y13 + v34))
 else
 some l12)
partial_fixpoint
def m_s_FoldCode (a0 : TFunc) : Option (TFunc) :=
 m_s_l30Copy a0 >>= fun v1 =>
 m_s_IsFunc a0 >>= fun v3 =>
 (if v3 = true then
 m_s_l30Hit a0.fCode >>= fun v6 =>
 (
 m_s_FoldCode_L12 a0 v6 v1.fCode 0
 : Option ((List TIns))) >>= fun l8 =>
 some (TFunc.mk v1.fName v1.fParams v1.fUses v1.fSlots v1.fGen l8)
 else
 some v1)
theorem ok_s_FoldCode {a0 : TFunc} {r : TFunc} (h : m_s_FoldCode a0 = some r) : ACall Tryz.prog 11 [.agg a0.lit] [] (fun res h => res = .agg r.lit ∧ h = []) := by
 refine vc1 Tryz.func11 ?_
 unfold m_s_FoldCode at h
 refine .d (.d ⟨rfl, _, rfl, (bk h fun v1 hv2 h => (pcF (own_s_l30Copy hv2) (.agg [.str v1.fName, .own 2 0 0 v1.fParams.length, .own 3 0 0 v1.fUses.length, .own 4 0 0 v1.fSlots.length, .bool v1.fGen, .own 5 0 0 v1.fCode.length]) [.row 0 6 1 32 (fun _ => a0.lit), .row 0 6 1 32 (fun _ => [.str [], .nils, .nils, .nils, .bool false, .nils]), .row 0 2 v1.fParams.length 70 (row TParam.cells v1.fParams), .row 0 2 v1.fUses.length 70 (row TParam.cells v1.fUses), .row 0 1 v1.fSlots.length 9 (row cS v1.fSlots), .row 0 5 v1.fCode.length 46 (row TIns.cells v1.fCode)] ⟨rfl, _, fun _ => [.str v1.fName, .own 2 0 0 v1.fParams.length, .own 3 0 0 v1.fUses.length, .own 4 0 0 v1.fSlots.length, .bool v1.fGen, .own 5 0 0 v1.fCode.length], rfl, one_set rfl, (.d (.d ⟨rfl, _, rfl, (bk h fun v3 hv4 h => (pcP (ok_s_IsFunc hv4) (sVn h (fun hb5 h => ?_) (fun hb5 h => ?_))))⟩))⟩))⟩)
 refine .d ⟨rfl, _, rfl, ⟨rfl, _, fun _ => [.str v1.fName, .own 2 0 0 v1.fParams.length, .own 3 0 0 v1.fUses.length, .own 4 0 0 v1.fSlots.length, .bool v1.fGen, .own 5 0 0 v1.fCode.length], rfl, one_set rfl, ?_⟩⟩
 obtain rfl := si h
 exact ⟨rfl, _, rfl, (en [] ⟨rfl, rfl⟩ (.agg_l ⟨.s, .r, .r, .r, .b, .r, ⟨⟩⟩) ⟨⟩)⟩
 refine .d ⟨rfl, ⟨rfl, _, rfl, (bk h fun v6 hv7 h => (pcP (ok_s_l30Hit hv7) (.d ?_)))⟩⟩
 obtain ⟨o9, ho10, hk11⟩ := bd h
 replace h := ho10
 refine .cut (fun σ η => ∃ l8, l8 = o9 ∧ σ = [(2, .optr 0 0 0 0), (3, .optr 1 0 0 0)] ∧ η = [.row 0 6 1 32 (fun _ => [.str [], .nils, .nils, .nils, .bool false, .nils]), .row 0 6 1 32 (fun _ => [.str v1.fName, .own 2 0 0 v1.fParams.length, .own 3 0 0 v1.fUses.length, .own 4 0 0 v1.fSlots.length, .bool v1.fGen, .own 5 0 0 l8.length]), .row 0 2 v1.fParams.length 70 (row TParam.cells v1.fParams), .row 0 2 v1.fUses.length 70 (row TParam.cells v1.fUses), .row 0 1 v1.fSlots.length 9 (row cS v1.fSlots), .row 0 5 l8.length 46 (row TIns.cells l8)]) ?_ ?_
 refine le (m_s_FoldCode_L12.partial_correctness a0 v6 (motive := fun l12 y13 o36 => o9 = o36 → LoopAt _ _ [(1, .optr 0 0 0 0), (2, .optr 1 0 0 0), (3, .optr 2 0 0 0), (4, sl 1 cT v6), (5, .int .i64 y13)] [.row 0 6 1 32 (fun _ => a0.lit), .row 0 6 1 32 (fun _ => [.str [], .nils, .nils, .nils, .bool false, .nils]), .row 0 6 1 32 (fun _ => [.str v1.fName, .own 3 0 0 v1.fParams.length, .own 4 0 0 v1.fUses.length, .own 5 0 0 v1.fSlots.length, .bool v1.fGen, .own 6 0 0 l12.length]), .row 0 2 v1.fParams.length 70 (row TParam.cells v1.fParams), .row 0 2 v1.fUses.length 70 (row TParam.cells v1.fUses), .row 0 1 v1.fSlots.length 9 (row cS v1.fSlots), .row 0 5 l12.length 46 (row TIns.cells l12)]) ?_ v1.fCode 0 o9 h rfl) (tk [0, 1, 6, 2, 3, 4, 5] ⟨.p, .p, .p, .l, .i, ⟨⟩⟩ ⟨(nbp rfl), (nb rfl ⟨.s, .nils, .nils, .nils, .b, .nils, ⟨⟩⟩), (nb rfl ⟨.s, .o, .o, .o, .b, .o, ⟨⟩⟩), nw, nw, nw, nw, ⟨⟩⟩)
 intro F15 ih14 l12 y13 o36 h hr37
 subst hr37
 refine LoopAt.round (.d (.d ⟨rfl, ⟨rfl, _, rfl, (sD h (fun hb16 h => ?_) (fun hb16 h => ?_))⟩⟩))
 refine .d ⟨rfl, ⟨rfl, _, rfl, (bk h fun v17 hv18 h => (pcP (ok_s_l30Window hv18) ?_))⟩⟩
 obtain ⟨o20, ho21, hk22⟩ := bd h
 replace h := ho21
 refine .cut (fun σ η => ∃ l19, l19 = o20 ∧ σ = [(1, .optr 0 0 0 0), (2, .optr 1 0 0 0), (3, .optr 2 0 0 0), (4, sl 1 cT v6), (5, .int .i64 y13), (6, sl 5 TIns.cells v17)] ∧ η = [.row 0 6 1 32 (fun _ => a0.lit), .row 0 6 1 32 (fun _ => [.str [], .nils, .nils, .nils, .bool false, .nils]), .row 0 6 1 32 (fun _ => [.str v1.fName, .own 3 0 0 v1.fParams.length, .own 4 0 0 v1.fUses.length, .own 5 0 0 v1.fSlots.length, .bool v1.fGen, .own 6 0 0 l19.length]), .row 0 2 v1.fParams.length 70 (row TParam.cells v1.fParams), .row 0 2 v1.fUses.length 70 (row TParam.cells v1.fUses), .row 0 1 v1.fSlots.length 9 (row cS v1.fSlots), .row 0 5 l19.length 46 (row TIns.cells l19)]) ?_ ?_
 refine .d ?_
 refine le (m_s_FoldCode_L14.partial_correctness v17 y13 (motive := fun l23 y24 o32 => o20 = o32 → LoopAt _ _ [(1, .optr 0 0 0 0), (2, .optr 1 0 0 0), (3, .optr 2 0 0 0), (4, sl 1 cT v6), (5, .int .i64 y13), (6, sl 5 TIns.cells v17), (7, .int .i64 y24)] [.row 0 6 1 32 (fun _ => a0.lit), .row 0 6 1 32 (fun _ => [.str [], .nils, .nils, .nils, .bool false, .nils]), .row 0 6 1 32 (fun _ => [.str v1.fName, .own 3 0 0 v1.fParams.length, .own 4 0 0 v1.fUses.length, .own 5 0 0 v1.fSlots.length, .bool v1.fGen, .own 6 0 0 l23.length]), .row 0 2 v1.fParams.length 70 (row TParam.cells v1.fParams), .row 0 2 v1.fUses.length 70 (row TParam.cells v1.fUses), .row 0 1 v1.fSlots.length 9 (row cS v1.fSlots), .row 0 5 l23.length 46 (row TIns.cells l23)]) ?_ l12 0 o20 h rfl) (tk [0, 1, 2, 3, 4, 5, 6] ⟨.p, .p, .p, .l, .i, .l, .i, ⟨⟩⟩ ⟨(nbp rfl), (nb rfl ⟨.s, .nils, .nils, .nils, .b, .nils, ⟨⟩⟩), (nb rfl ⟨.s, .o, .o, .o, .b, .o, ⟨⟩⟩), nw, nw, nw, nw, ⟨⟩⟩)
 intro F26 ih25 l23 y24 o32 h hr33
 subst hr33
 refine LoopAt.round (.d (.d (sD h (fun hb27 h => ?_) (fun hb27 h => ?_))))
 refine .d (.float [(0, true), (1, true), (2, true), (3, true), (4, true), (5, true), (6, true), (7, true), (8, true), (9, true), (10, false)] (by kernel_rfl) ?_)
 exact ⟨rfl, ⟨rfl, _, rfl, (bk h fun x28 hx29 h => ⟨idx_bd hx29, _, (idx_row hx29).trans (TIns.cells_eq x28), (bk h fun x30 hx31 h => ⟨rfl, idx_bd hx31, _, Nat.zero_add _, ⟨rfl, _, row TIns.cells (l23.set ((W64 (y13 + y24)).toNat) x28), ((idx_row hx31).trans (TIns.cells_eq x30)), row_set (idx_lt hx31) (TIns.cells_eq x28) ⟨.same _, .same _, .same _, .same _, .same _, trivial⟩, (lg (ih25 _ _ _ h rfl) (tk [0, 1, 2, 3, 4, 5, 6] ⟨.p, .p, .p, .l, .i, .l, .i, ⟨⟩⟩ ⟨(nbp rfl), (nb rfl ⟨.s, .nils, .nils, .nils, .b, .nils, ⟨⟩⟩), (nb rfl ⟨.s, .o, .o, .o, .b, (.ox ln), ⟨⟩⟩), nw, nw, nw, (nwx rfl ln), ⟨⟩⟩))⟩⟩)⟩)⟩⟩
 exact ct ⟨_, si h, rfl, rfl⟩ (tk [0, 1, 2, 3, 4, 5, 6] ⟨.p, .p, .p, .l, .i, .l, ⟨⟩⟩ ⟨(nbp rfl), (nb rfl ⟨.s, .nils, .nils, .nils, .b, .nils, ⟨⟩⟩), (nb rfl ⟨.s, .o, .o, .o, .b, .o, ⟨⟩⟩), nw, nw, nw, nw, ⟨⟩⟩)
 rintro _ _ ⟨l19, rfl, rfl, rfl⟩
 replace h := hk22
 exact bk h fun v34 hv35 h => (pcP (ok_s_Max hv35) (lg (ih14 _ _ _ h rfl) (tk [0, 1, 2, 3, 4, 5, 6] ⟨.p, .p, .p, .l, .i, ⟨⟩⟩ ⟨(nbp rfl), (nb rfl ⟨.s, .nils, .nils, .nils, .b, .nils, ⟨⟩⟩), (nb rfl ⟨.s, .o, .o, .o, .b, .o, ⟨⟩⟩), nw, nw, nw, nw, ⟨⟩⟩)))
 exact ct ⟨_, si h, rfl, rfl⟩ (tk [1, 2, 3, 4, 5, 6] ⟨.p, .p, ⟨⟩⟩ ⟨(nb rfl ⟨.s, .nils, .nils, .nils, .b, .nils, ⟨⟩⟩), (nb rfl ⟨.s, .o, .o, .o, .b, .o, ⟨⟩⟩), nw, nw, nw, nw, ⟨⟩⟩)
 rintro _ _ ⟨l8, rfl, rfl, rfl⟩
 replace h := hk11
 refine .d ⟨rfl, _, rfl, ⟨rfl, _, fun _ => [.str v1.fName, .own 2 0 0 v1.fParams.length, .own 3 0 0 v1.fUses.length, .own 4 0 0 v1.fSlots.length, .bool v1.fGen, .own 5 0 0 l8.length], rfl, one_set rfl, ?_⟩⟩
 obtain rfl := si h
 exact ⟨rfl, _, rfl, (en [] ⟨rfl, rfl⟩ (.agg_l ⟨.s, .r, .r, .r, .b, .r, ⟨⟩⟩) ⟨⟩)⟩
def m_i_CheckFold_L2 (a0 : TFunc) (a1 : TFunc) (v11 : List (Int × Bool)) (y16 : Int) : Option ((Unit) ⊕ Bool) :=
 (if y16 < (a0.fCode.length : Int) then
 m_i_windowAt a0.fCode v11 y16 >>= fun v20 =>
 ((
 (if (v20.length : Int) > 0 then
 lsub a1.fCode y16 (W64 (y16 + (v20.length : Int))) >>= fun l26 =>
 m_EqualI v20 l26 >>= fun v28 =>
 (if v28 = true then
 (
 m_i_CheckFold_L2 a0 a1 v11 (W64 (y16 + (v20.length : Int)))
 ) >>= fun o31 => some (.inr o31)
 else
 some (.inl ()))
 else
 some (.inl ()))
 : Option ((Unit) ⊕ ((Unit) ⊕ Bool))) >>= fun o22 => match o22 with
 | .inr r => some r
 | .inl _ =>
 idx a0.fCode y16 >>= fun x34 =>
 idx a1.fCode y16 >>= fun x36 =>
 (if x34 = x36 then
 m_i_CheckFold_L2 a0 a1 v11 (W64 (y16 + 1))
 else
 some (.inr false))
 )
 else
 some (.inl ()))
partial_fixpoint
def m_i_CheckFold (a0 : TFunc) (a1 : TFunc) : Option (Bool) :=
 m_i_IsFunc a0 >>= fun v1 =>
 (if v1 = true then
 m_i_IsFunc a1 >>= fun v4 =>
 (if v4 = true then
 m_i_agree a0 a1 >>= fun v7 =>
 (if v7 = true then
 (if (a0.fCode.length : Int) = (a1.fCode.length : Int) then
 m_i_targetSet a0 >>= fun v11 =>
 ((
 m_i_CheckFold_L2 a0 a1 v11 0
 : Option ((Unit) ⊕ Bool)) >>= fun o13 => match o13 with
 | .inr r => some r
 | .inl _ =>
 some true
 )
 else
 some false)
 else
 some false)
 else
 some false)
 else
 some false)
theorem ok_i_CheckFold {a0 : TFunc} {a1 : TFunc} {r : Bool} (h : m_i_CheckFold a0 a1 = some r) : ACall Tryz.prog 9 [.agg a0.lit, .agg a1.lit] [] (fun res h => res = .bool r ∧ h = []) := by
 refine vc1 Tryz.func9 ?_
 unfold m_i_CheckFold at h
 refine .d (.d (.d ⟨rfl, _, rfl, (bk h fun v1 hv2 h => (pcP (ok_i_IsFunc hv2) (sVn h (fun hb3 h => ?_) (fun hb3 h => ?_))))⟩))
 refine .t (.t (.t (.t (.t (.t (.t (.t (.t (.t (.t (.t (.t (.t (.t ?_))))))))))))))
 exact .t (.t (.d (eB h)))
 refine ⟨rfl, _, rfl, (.f (bk h fun v4 hv5 h => (pcP (ok_i_IsFunc hv5) (.f (.f (sVn h (fun hb6 h => ?_) (fun hb6 h => ?_)))))))⟩
 exact .t (.t (.t (.t (.t (.t (.t (.t (.t (.t (.t (.t (.t (.d (eB h))))))))))))))
 refine ⟨rfl, _, rfl, (.f ⟨rfl, _, rfl, (.f (bk h fun v7 hv8 h => (pcP (ok_i_agree hv8) (.f (.f (sVn h (fun hb9 h => ?_) (fun hb9 h => ?_)))))))⟩)⟩
 exact .t (.t (.t (.t (.t (.t (.t (.t (.d (eB h)))))))))
 refine ⟨rfl, (.f ⟨rfl, _, rfl, (.f (.f ⟨rfl, (.f ⟨rfl, _, rfl, (.f (.f (.f (sN h (fun hb10 h => ?_) (fun hb10 h => ?_)))))⟩)⟩))⟩)⟩
 exact .d (eB h)
 refine .d ⟨rfl, _, rfl, (bk h fun v11 hv12 h => (pcF (ok_i_targetSet hv12) (.omp 2) [.row 0 6 1 32 (fun _ => a0.lit), .row 0 6 1 32 (fun _ => a1.lit), .row 0 2 v11.length 50 (row (mc (PV.int .i64) (PV.bool)) v11)] ?_))⟩
 obtain ⟨o13, ho14, hk15⟩ := bd h
 replace h := ho14
 refine .cut (fun σ η => .inl () = o13 ∧ σ = [] ∧ η = []) ?_ ?_
 refine .d ?_
 refine le (m_i_CheckFold_L2.partial_correctness a0 a1 v11 (motive := fun y16 o39 => o13 = o39 → LoopAt _ _ [(2, .optr 0 0 0 0), (3, .optr 1 0 0 0), (5, .omp 2), (6, .int .i64 y16)] [.row 0 6 1 32 (fun _ => a0.lit), .row 0 6 1 32 (fun _ => a1.lit), .row 0 2 v11.length 50 (row (mc (PV.int .i64) (PV.bool)) v11)]) ?_ 0 o13 h rfl) (tk [0, 1, 2] ⟨.p, .p, .m, .i, ⟨⟩⟩ ⟨(nbp rfl), (nbp rfl), nw, ⟨⟩⟩)
 intro F18 ih17 y16 o39 h hr40
 subst hr40
 refine LoopAt.round (.d (.d ⟨rfl, ⟨rfl, _, rfl, (sD h (fun hb19 h => ?_) (fun hb19 h => ?_))⟩⟩))
 refine .d ⟨rfl, ⟨rfl, _, rfl, (bk h fun v20 hv21 h => (pcO (ok_i_windowAt (g1000 := 0) hv21) [2] ⟨ov, ⟨⟩⟩ (sl 5 TIns.cells v20) [.row 0 6 1 32 (fun _ => a0.lit), .row 0 6 1 32 (fun _ => a1.lit), .row 0 2 v11.length 50 (row (mc (PV.int .i64) (PV.bool)) v11)] ?_))⟩⟩
 obtain ⟨o22, ho23, hk24⟩ := bd h
 replace h := ho23
 refine .cut (fun σ η => .inl () = o22 ∧ σ = [(2, .optr 0 0 0 0), (3, .optr 1 0 0 0), (5, .omp 2), (6, .int .i64 y16)] ∧ η = [.row 0 6 1 32 (fun _ => a0.lit), .row 0 6 1 32 (fun _ => a1.lit), .row 0 2 v11.length 50 (row (mc (PV.int .i64) (PV.bool)) v11)]) ?_ ?_
 refine .d (sD h (fun hb25 h => ?_) (fun hb25 h => ?_))
 refine .t ⟨rfl, (.t ⟨rfl, _, rfl, (.t (.t (.t (.t (.t (.t (bk h fun l26 hx27 h => ⟨trivial, lsub_bd hx27, l26.length, row TIns.cells l26, lsub_len hx27, lsub_row hx27, (.t (bk h fun v28 hv29 h => (pcP (ok_EqualI hv29) ?_)))⟩)))))))⟩)⟩
 refine .t (sV h (fun hb30 h => ?_) (fun hb30 h => ?_))
 refine .d ?_
 obtain ⟨o31, ho32, hk33⟩ := bd h
 obtain rfl := si hk33
 obtain rfl := si hk24
 replace h := ho32
 exact lg (ih17 _ _ h rfl) (tk [0, 1, 2] ⟨.p, .p, .m, .i, ⟨⟩⟩ ⟨(nbp rfl), (nbp rfl), nw, ⟨⟩⟩)
 exact ct ⟨si h, rfl, rfl⟩ (tk [0, 1, 2] ⟨.p, .p, .m, .i, ⟨⟩⟩ ⟨(nbp rfl), (nbp rfl), nw, ⟨⟩⟩)
 exact .f (.f (.f (.f (.f (.f (.f (.f (.f (.f (.f (ct ⟨si h, rfl, rfl⟩ (tk [0, 1, 2] ⟨.p, .p, .m, .i, ⟨⟩⟩ ⟨(nbp rfl), (nbp rfl), nw, ⟨⟩⟩))))))))))))
 rintro _ _ ⟨rfl, rfl, rfl⟩
 replace h := hk24
 refine .d (.d ⟨rfl, ⟨rfl, _, rfl, (bk h fun x34 hx35 h => ⟨idx_bd hx35, _, (idx_row hx35).trans (TIns.cells_eq x34), ⟨rfl, ⟨rfl, _, rfl, (bk h fun x36 hx37 h => ⟨idx_bd hx37, _, (idx_row hx37).trans (TIns.cells_eq x36), ⟨_, TIns.eq_cells x34 x36, (sDn h (fun hb38 h => ?_) (fun hb38 h => ?_))⟩⟩)⟩⟩⟩)⟩⟩)
 refine .d ?_
 obtain rfl := si h
 replace h := hk15
 exact eB h
 exact lg (ih17 _ _ h rfl) (tk [0, 1, 2] ⟨.p, .p, .m, .i, ⟨⟩⟩ ⟨(nbp rfl), (nbp rfl), nw, ⟨⟩⟩)
 exact ct ⟨si h, rfl, rfl⟩ (tk [] ⟨⟩ ⟨⟩)
 rintro _ _ ⟨rfl, rfl, rfl⟩
 replace h := hk15
 exact .d (eB h)
def m_s_CheckFold_L10 (a1 : TFunc) (v20 : List TIns) (y16 : Int) (b26 : Bool) (y27 : Int) : Option (Bool) :=
 (if y27 < (v20.length : Int) then
 (if b26 = true then
 idx a1.fCode (W64 (y16 + y27)) >>= fun x32 =>
 idx v20 y27 >>= fun x34 =>
 m_s_CheckFold_L10 a1 v20 y16 (decide (x32 = x34)) (W64 (y27 + 1))
 else
 m_s_CheckFold_L10 a1 v20 y16 false (W64 (y27 + 1)))
 else
 some b26)
partial_fixpoint
def m_s_CheckFold_L8 (a0 : TFunc) (a1 : TFunc) (v11 : List Bool) (y16 : Int) : Option ((Unit) ⊕ Bool) :=
 (if y16 < (a0.fCode.length : Int) then
 m_s_l30Window a0.fCode v11 y16 >>= fun v20 =>
 (
 m_s_CheckFold_L10 a1 v20 y16 (decide ((v20.length : Int) > 0)) 0
 : Option (Bool)) >>= fun b22 =>
 (if b22 = true then
 m_s_CheckFold_L8 a0 a1 v11 (W64 (y16 + (v20.length : Int)))
 else
 idx a1.fCode y16 >>= fun x39 =>
 idx a0.fCode y16 >>= fun x41 =>
 (if x39 = x41 then
 m_s_CheckFold_L8 a0 a1 v11 (W64 (y16 + 1))
 else
 some (.inr false)))
 else
 some (.inl ()))
partial_fixpoint
def m_s_CheckFold (a0 : TFunc) (a1 : TFunc) : Option (Bool) :=
 m_s_IsFunc a0 >>= fun v1 =>
 (if v1 = true then
 m_s_IsFunc a1 >>= fun v4 =>
 (if v4 = true then
 m_s_l30Same a0 a1 >>= fun v7 =>
 (if v7 = true then
 (if (a0.fCode.length : Int) = (a1.fCode.length : Int) then
 m_s_l30Hit a0.fCode >>= fun v11 =>
 ((
 m_s_CheckFold_L8 a0 a1 v11 0
 : Option ((Unit) ⊕ Bool)) >>= fun o13 => match o13 with
 | .inr r => some r
 | .inl _ =>
 some true
 )
 else
 some false)
 else
 some false)
 else
 some false)
 else
 some false)
theorem ok_s_CheckFold {a0 : TFunc} {a1 : TFunc} {r : Bool} (h : m_s_CheckFold a0 a1 = some r) : ACall Tryz.prog 7 [.agg a0.lit, .agg a1.lit] [] (fun res h => res = .bool r ∧ h = []) := by
 refine vc1 Tryz.func7 ?_
 unfold m_s_CheckFold at h
 refine .d (.d (.d ⟨rfl, _, rfl, (bk h fun v1 hv2 h => (pcP (ok_s_IsFunc hv2) (sVn h (fun hb3 h => ?_) (fun hb3 h => ?_))))⟩))
 refine .t (.t (.t (.t (.t (.t (.t (.t (.t (.t (.t (.t (.t (.t (.t ?_))))))))))))))
 exact .t (.t (.d (eB h)))
 refine ⟨rfl, _, rfl, (.f (bk h fun v4 hv5 h => (pcP (ok_s_IsFunc hv5) (.f (.f (sVn h (fun hb6 h => ?_) (fun hb6 h => ?_)))))))⟩
 exact .t (.t (.t (.t (.t (.t (.t (.t (.t (.t (.t (.t (.t (.d (eB h))))))))))))))
 refine ⟨rfl, _, rfl, (.f ⟨rfl, _, rfl, (.f (bk h fun v7 hv8 h => (pcP (ok_s_l30Same hv8) (.f (.f (sVn h (fun hb9 h => ?_) (fun hb9 h => ?_)))))))⟩)⟩
 exact .t (.t (.t (.t (.t (.t (.t (.t (.d (eB h)))))))))
 refine ⟨rfl, (.f ⟨rfl, _, rfl, (.f (.f ⟨rfl, (.f ⟨rfl, _, rfl, (.f (.f (.f (sN h (fun hb10 h => ?_) (fun hb10 h => ?_)))))⟩)⟩))⟩)⟩
 exact .d (eB h)
 refine .d ⟨rfl, ⟨rfl, _, rfl, (bk h fun v11 hv12 h => (pcP (ok_s_l30Hit hv12) (.d ?_)))⟩⟩
 obtain ⟨o13, ho14, hk15⟩ := bd h
 replace h := ho14
 refine .cut (fun σ η => .inl () = o13 ∧ σ = [] ∧ η = []) ?_ ?_
 refine le (m_s_CheckFold_L8.partial_correctness a0 a1 v11 (motive := fun y16 o44 => o13 = o44 → LoopAt _ _ [(2, .optr 0 0 0 0), (3, .optr 1 0 0 0), (5, sl 1 cT v11), (6, .int .i64 y16)] [.row 0 6 1 32 (fun _ => a0.lit), .row 0 6 1 32 (fun _ => a1.lit)]) ?_ 0 o13 h rfl) (tk [0, 1] ⟨.p, .p, .l, .i, ⟨⟩⟩ ⟨(nbp rfl), (nbp rfl), ⟨⟩⟩)
 intro F18 ih17 y16 o44 h hr45
 subst hr45
 refine LoopAt.round (.d (.d ⟨rfl, ⟨rfl, _, rfl, (sD h (fun hb19 h => ?_) (fun hb19 h => ?_))⟩⟩))
 refine .d ⟨rfl, ⟨rfl, _, rfl, (bk h fun v20 hv21 h => (pcP (ok_s_l30Window hv21) (.d ?_)))⟩⟩
 obtain ⟨o23, ho24, hk25⟩ := bd h
 replace h := ho24
 refine .cut (fun σ η => ∃ b22, b22 = o23 ∧ σ = [(2, .optr 0 0 0 0), (3, .optr 1 0 0 0), (5, sl 1 cT v11), (6, .int .i64 y16), (7, sl 5 TIns.cells v20), (8, .bool b22)] ∧ η = [.row 0 6 1 32 (fun _ => a0.lit), .row 0 6 1 32 (fun _ => a1.lit)]) ?_ ?_
 refine .d ?_
 refine le (m_s_CheckFold_L10.partial_correctness a1 v20 y16 (motive := fun b26 y27 o36 => o23 = o36 → LoopAt _ _ [(2, .optr 0 0 0 0), (3, .optr 1 0 0 0), (5, sl 1 cT v11), (6, .int .i64 y16), (7, sl 5 TIns.cells v20), (8, .bool b26), (9, .int .i64 y27)] [.row 0 6 1 32 (fun _ => a0.lit), .row 0 6 1 32 (fun _ => a1.lit)]) ?_ (decide ((v20.length : Int) > 0)) 0 o23 h rfl) (tk [0, 1] ⟨.p, .p, .l, .i, .l, .b, .i, ⟨⟩⟩ ⟨(nbp rfl), (nbp rfl), ⟨⟩⟩)
 intro F29 ih28 b26 y27 o36 h hr37
 subst hr37
 refine LoopAt.round (.d (.d (sD h (fun hb30 h => ?_) (fun hb30 h => ?_))))
 refine .d (sV h (fun hb31 h => ?_) (fun hb31 h => ?_))
 refine ⟨rfl, (.t ⟨rfl, _, rfl, (.t (.t (.t (.t (bk h fun x32 hx33 h => ⟨idx_bd hx33, _, (idx_row hx33).trans (TIns.cells_eq x32), (.t (.t (.t (.t (bk h fun x34 hx35 h => ⟨idx_bd hx35, _, (idx_row hx35).trans (TIns.cells_eq x34), ?_⟩)))))⟩)))))⟩)⟩
 exact .t (.t ⟨_, TIns.eq_cells x32 x34, (.t (lg (ih28 _ _ _ h rfl) (tk [0, 1] ⟨.p, .p, .l, .i, .l, .b, .i, ⟨⟩⟩ ⟨(nbp rfl), (nbp rfl), ⟨⟩⟩)))⟩)
 exact .f (.f (.f (.f (.f (.f (.f (.f (.f (.f (.f (.f (lg (ih28 _ _ _ h rfl) (tk [0, 1] ⟨.p, .p, .l, .i, .l, .b, .i, ⟨⟩⟩ ⟨(nbp rfl), (nbp rfl), ⟨⟩⟩)))))))))))))
 exact ct ⟨_, si h, rfl, rfl⟩ (tk [0, 1] ⟨.p, .p, .l, .i, .l, .b, ⟨⟩⟩ ⟨(nbp rfl), (nbp rfl), ⟨⟩⟩)
 rintro _ _ ⟨b22, rfl, rfl, rfl⟩
 replace h := hk25
 refine .d (sV h (fun hb38 h => ?_) (fun hb38 h => ?_))
 exact lg (ih17 _ _ h rfl) (tk [0, 1] ⟨.p, .p, .l, .i, ⟨⟩⟩ ⟨(nbp rfl), (nbp rfl), ⟨⟩⟩)
 refine .d ⟨rfl, ⟨rfl, _, rfl, (bk h fun x39 hx40 h => ⟨idx_bd hx40, _, (idx_row hx40).trans (TIns.cells_eq x39), ⟨rfl, ⟨rfl, _, rfl, (bk h fun x41 hx42 h => ⟨idx_bd hx42, _, (idx_row hx42).trans (TIns.cells_eq x41), ⟨_, TIns.eq_cells x39 x41, (sD h (fun hb43 h => ?_) (fun hb43 h => ?_))⟩⟩)⟩⟩⟩)⟩⟩
 exact lg (ih17 _ _ h rfl) (tk [0, 1] ⟨.p, .p, .l, .i, ⟨⟩⟩ ⟨(nbp rfl), (nbp rfl), ⟨⟩⟩)
 refine .d ?_
 obtain rfl := si h
 replace h := hk15
 exact eB h
 exact ct ⟨si h, rfl, rfl⟩ (tk [] ⟨⟩ ⟨⟩)
 rintro _ _ ⟨rfl, rfl, rfl⟩
 replace h := hk15
 exact .d (eB h)
def m_i_OptimizeFunc_L2 (s15 : Str) (b16 : Bool) (l17 : List TParam) (l18 : List TParam) (l19 : List Str) (l20 : List TIns) (y21 : Int) : Option (Str × Bool × (List TParam) × (List TParam) × (List Str) × (List TIns)) :=
 (if y21 < 4 then
 m_i_FoldCode (TFunc.mk s15 l17 l18 l19 b16 l20) >>= fun v25 =>
 m_i_ThreadCode v25 >>= fun v27 =>
 m_i_DropCode v27 >>= fun (v29, v30) =>
 m_i_OptimizeFunc_L2 v29.fName v29.fGen v29.fParams v29.fUses v29.fSlots v29.fCode (W64 (y21 + 1))
 else
 some (s15, b16, l17, l18, l19, l20))
partial_fixpoint
def m_i_OptimizeFunc (a0 : TFunc) : Option (TFunc) :=
 m_i_copyFunc a0 >>= fun v1 =>
 m_i_IsFunc a0 >>= fun v3 =>
 (if v3 = true then
 (
 m_i_OptimizeFunc_L2 v1.fName v1.fGen v1.fParams v1.fUses v1.fSlots v1.fCode 0
 : Option (Str × Bool × (List TParam) × (List TParam) × (List Str) × (List TIns))) >>= fun (s6, b7, l8, l9, l10, l11) =>
 some (TFunc.mk s6 l8 l9 l10 b7 l11)
 else
 some v1)
theorem ok_i_OptimizeFunc {a0 : TFunc} {r : TFunc} (h : m_i_OptimizeFunc a0 = some r) : ACall Tryz.prog 16 [.agg a0.lit] [] (fun res h => res = .agg [.str r.fName, .own 0 0 0 r.fParams.length, .own 1 0 0 r.fUses.length, .own 2 0 0 r.fSlots.length, .bool r.fGen, .own 3 0 0 r.fCode.length] ∧ h = [.row 0 2 r.fParams.length 70 (row TParam.cells r.fParams), .row 0 2 r.fUses.length 70 (row TParam.cells r.fUses), .row 0 1 r.fSlots.length 9 (row cS r.fSlots), .row 0 5 r.fCode.length 46 (row TIns.cells r.fCode)]) := by
 refine vc1 Tryz.func16 ?_
 unfold m_i_OptimizeFunc at h
 refine .d (.d ⟨rfl, _, rfl, (bk h fun v1 hv2 h => (pcF (own_i_copyFunc hv2) (.agg [.str v1.fName, .own 2 0 0 v1.fParams.length, .own 3 0 0 v1.fUses.length, .own 4 0 0 v1.fSlots.length, .bool v1.fGen, .own 5 0 0 v1.fCode.length]) [.row 0 6 1 32 (fun _ => a0.lit), .row 0 6 1 32 (fun _ => [.str [], .nils, .nils, .nils, .bool false, .nils]), .row 0 2 v1.fParams.length 70 (row TParam.cells v1.fParams), .row 0 2 v1.fUses.length 70 (row TParam.cells v1.fUses), .row 0 1 v1.fSlots.length 9 (row cS v1.fSlots), .row 0 5 v1.fCode.length 46 (row TIns.cells v1.fCode)] ⟨rfl, _, fun _ => [.str v1.fName, .own 2 0 0 v1.fParams.length, .own 3 0 0 v1.fUses.length, .own 4 0 0 v1.fSlots.length, .bool v1.fGen, .own 5 0 0 v1.fCode.length], rfl, one_set rfl, (.d (.d ⟨rfl, _, rfl, (bk h fun v3 hv4 h => (pcP (ok_i_IsFunc hv4) (sVn h (fun hb5 h => ?_) (fun hb5 h => ?_))))⟩))⟩))⟩)
 refine .d ⟨rfl, _, rfl, ⟨rfl, _, fun _ => [.str v1.fName, .own 2 0 0 v1.fParams.length, .own 3 0 0 v1.fUses.length, .own 4 0 0 v1.fSlots.length, .bool v1.fGen, .own 5 0 0 v1.fCode.length], rfl, one_set rfl, ?_⟩⟩
 obtain rfl := si h
 exact ⟨rfl, _, rfl, (en [2, 3, 4, 5] ⟨rfl, rfl⟩ (.agg_l ⟨.s, .o, .o, .o, .b, .o, ⟨⟩⟩) ⟨nw, nw, nw, nw, ⟨⟩⟩)⟩
 obtain ⟨o12, ho13, hk14⟩ := bd h
 replace h := ho13
 refine .cut (fun σ η => ∃ s6, ∃ b7, ∃ l8, ∃ l9, ∃ l10, ∃ l11, (s6, b7, l8, l9, l10, l11) = o12 ∧ σ = [(2, .optr 0 0 0 0), (3, .optr 1 0 0 0)] ∧ η = [.row 0 6 1 32 (fun _ => [.str [], .nils, .nils, .nils, .bool false, .nils]), .row 0 6 1 32 (fun _ => [.str s6, .own 2 0 0 l8.length, .own 3 0 0 l9.length, .own 4 0 0 l10.length, .bool b7, .own 5 0 0 l11.length]), .row 0 2 l8.length 70 (row TParam.cells l8), .row 0 2 l9.length 70 (row TParam.cells l9), .row 0 1 l10.length 9 (row cS l10), .row 0 5 l11.length 46 (row TIns.cells l11)]) ?_ ?_
 refine .d ?_
 refine le (m_i_OptimizeFunc_L2.partial_correctness  (motive := fun s15 b16 l17 l18 l19 l20 y21 o32 => o12 = o32 → LoopAt _ _ [(2, .optr 0 0 0 0), (3, .optr 1 0 0 0), (10, .int .i64 y21)] [.row 0 6 1 32 (fun _ => [.str [], .nils, .nils, .nils, .bool false, .nils]), .row 0 6 1 32 (fun _ => [.str s15, .own 2 0 0 l17.length, .own 3 0 0 l18.length, .own 4 0 0 l19.length, .bool b16, .own 5 0 0 l20.length]), .row 0 2 l17.length 70 (row TParam.cells l17), .row 0 2 l18.length 70 (row TParam.cells l18), .row 0 1 l19.length 9 (row cS l19), .row 0 5 l20.length 46 (row TIns.cells l20)]) ?_ v1.fName v1.fGen v1.fParams v1.fUses v1.fSlots v1.fCode 0 o12 h rfl) (tk [1, 6, 2, 3, 4, 5] ⟨.p, .p, .i, ⟨⟩⟩ ⟨(nb rfl ⟨.s, .nils, .nils, .nils, .b, .nils, ⟨⟩⟩), (nb rfl ⟨.s, .o, .o, .o, .b, .o, ⟨⟩⟩), nw, nw, nw, nw, ⟨⟩⟩)
 intro F23 ih22 s15 b16 l17 l18 l19 l20 y21 o32 h hr33
 subst hr33
 refine LoopAt.round (.d (.d (sD h (fun hb24 h => ?_) (fun hb24 h => ?_))))
 refine .d ⟨rfl, _, rfl, (bk h fun v25 hv26 h => (pcFS (ok_i_FoldCode hv26) ⟨.agg_l ⟨.s, .r, .r, .r, .b, .r, ⟨⟩⟩, ⟨⟩⟩ (.agg [.str v25.fName, .own 6 0 0 v25.fParams.length, .own 7 0 0 v25.fUses.length, .own 8 0 0 v25.fSlots.length, .bool v25.fGen, .own 9 0 0 v25.fCode.length]) [.row 0 6 1 32 (fun _ => [.str [], .nils, .nils, .nils, .bool false, .nils]), .row 0 6 1 32 (fun _ => [.str s15, .own 2 0 0 l17.length, .own 3 0 0 l18.length, .own 4 0 0 l19.length, .bool b16, .own 5 0 0 l20.length]), .row 0 2 l17.length 70 (row TParam.cells l17), .row 0 2 l18.length 70 (row TParam.cells l18), .row 0 1 l19.length 9 (row cS l19), .row 0 5 l20.length 46 (row TIns.cells l20), .row 0 2 v25.fParams.length 70 (row TParam.cells v25.fParams), .row 0 2 v25.fUses.length 70 (row TParam.cells v25.fUses), .row 0 1 v25.fSlots.length 9 (row cS v25.fSlots), .row 0 5 v25.fCode.length 46 (row TIns.cells v25.fCode)] (flatL_cons (flatO_row (fun _ => rfl)) (flatL_cons (flatO_row (fun _ => rfl)) (flatL_cons (flatO_row (fun _ => rfl)) (flatL_cons (flatO_row (fun _ => rfl)) flatL_nil)))) (bk h fun v27 hv28 h => (pcFS (ok_i_ThreadCode hv28) ⟨.agg_l ⟨.s, .r, .r, .r, .b, .r, ⟨⟩⟩, ⟨⟩⟩ (.agg [.str v27.fName, .own 10 0 0 v27.fParams.length, .own 11 0 0 v27.fUses.length, .own 12 0 0 v27.fSlots.length, .bool v27.fGen, .own 13 0 0 v27.fCode.length]) [.row 0 6 1 32 (fun _ => [.str [], .nils, .nils, .nils, .bool false, .nils]), .row 0 6 1 32 (fun _ => [.str s15, .own 2 0 0 l17.length, .own 3 0 0 l18.length, .own 4 0 0 l19.length, .bool b16, .own 5 0 0 l20.length]), .row 0 2 l17.length 70 (row TParam.cells l17), .row 0 2 l18.length 70 (row TParam.cells l18), .row 0 1 l19.length 9 (row cS l19), .row 0 5 l20.length 46 (row TIns.cells l20), .row 0 2 v25.fParams.length 70 (row TParam.cells v25.fParams), .row 0 2 v25.fUses.length 70 (row TParam.cells v25.fUses), .row 0 1 v25.fSlots.length 9 (row cS v25.fSlots), .row 0 5 v25.fCode.length 46 (row TIns.cells v25.fCode), .row 0 2 v27.fParams.length 70 (row TParam.cells v27.fParams), .row 0 2 v27.fUses.length 70 (row TParam.cells v27.fUses), .row 0 1 v27.fSlots.length 9 (row cS v27.fSlots), .row 0 5 v27.fCode.length 46 (row TIns.cells v27.fCode)] (flatL_cons (flatO_row (fun _ => rfl)) (flatL_cons (flatO_row (fun _ => rfl)) (flatL_cons (flatO_row (fun _ => rfl)) (flatL_cons (flatO_row (fun _ => rfl)) flatL_nil)))) ?_))))⟩
 obtain ⟨⟨v29, v30⟩, hv31, h⟩ := bd h
 exact pcFS (ok_i_DropCode hv31) ⟨.agg_l ⟨.s, .r, .r, .r, .b, .r, ⟨⟩⟩, ⟨⟩⟩ (.tup [.agg [.str v29.fName, .own 14 0 0 v29.fParams.length, .own 15 0 0 v29.fUses.length, .own 16 0 0 v29.fSlots.length, .bool v29.fGen, .own 17 0 0 v29.fCode.length], .own 18 0 0 v30.length]) [.row 0 6 1 32 (fun _ => [.str [], .nils, .nils, .nils, .bool false, .nils]), .row 0 6 1 32 (fun _ => [.str s15, .own 2 0 0 l17.length, .own 3 0 0 l18.length, .own 4 0 0 l19.length, .bool b16, .own 5 0 0 l20.length]), .row 0 2 l17.length 70 (row TParam.cells l17), .row 0 2 l18.length 70 (row TParam.cells l18), .row 0 1 l19.length 9 (row cS l19), .row 0 5 l20.length 46 (row TIns.cells l20), .row 0 2 v25.fParams.length 70 (row TParam.cells v25.fParams), .row 0 2 v25.fUses.length 70 (row TParam.cells v25.fUses), .row 0 1 v25.fSlots.length 9 (row cS v25.fSlots), .row 0 5 v25.fCode.length 46 (row TIns.cells v25.fCode), .row 0 2 v27.fParams.length 70 (row TParam.cells v27.fParams), .row 0 2 v27.fUses.length 70 (row TParam.cells v27.fUses), .row 0 1 v27.fSlots.length 9 (row cS v27.fSlots), .row 0 5 v27.fCode.length 46 (row TIns.cells v27.fCode), .row 0 2 v29.fParams.length 70 (row TParam.cells v29.fParams), .row 0 2 v29.fUses.length 70 (row TParam.cells v29.fUses), .row 0 1 v29.fSlots.length 9 (row cS v29.fSlots), .row 0 5 v29.fCode.length 46 (row TIns.cells v29.fCode), .row 0 1 v30.length 3 (row cI v30)] (flatL_cons (flatO_row (fun _ => rfl)) (flatL_cons (flatO_row (fun _ => rfl)) (flatL_cons (flatO_row (fun _ => rfl)) (flatL_cons (flatO_row (fun _ => rfl)) (flatL_cons (flatO_row (fun _ => rfl)) flatL_nil))))) ⟨rfl, _, fun _ => [.str v29.fName, .own 14 0 0 v29.fParams.length, .own 15 0 0 v29.fUses.length, .own 16 0 0 v29.fSlots.length, .bool v29.fGen, .own 17 0 0 v29.fCode.length], rfl, one_set rfl, (lg (ih22 _ _ _ _ _ _ _ _ h rfl) (tk [0, 1, 14, 15, 16, 17] ⟨.p, .p, .i, ⟨⟩⟩ ⟨(nb rfl ⟨.s, .nils, .nils, .nils, .b, .nils, ⟨⟩⟩), (nb rfl ⟨.s, .o, .o, .o, .b, .o, ⟨⟩⟩), nw, nw, nw, nw, ⟨⟩⟩))⟩
 exact ct ⟨_, _, _, _, _, _, si h, rfl, rfl⟩ (tk [0, 1, 2, 3, 4, 5] ⟨.p, .p, ⟨⟩⟩ ⟨(nb rfl ⟨.s, .nils, .nils, .nils, .b, .nils, ⟨⟩⟩), (nb rfl ⟨.s, .o, .o, .o, .b, .o, ⟨⟩⟩), nw, nw, nw, nw, ⟨⟩⟩)
 rintro _ _ ⟨s6, b7, l8, l9, l10, l11, rfl, rfl, rfl⟩
 replace h := hk14
 refine .d ⟨rfl, _, rfl, ⟨rfl, _, fun _ => [.str s6, .own 2 0 0 l8.length, .own 3 0 0 l9.length, .own 4 0 0 l10.length, .bool b7, .own 5 0 0 l11.length], rfl, one_set rfl, ?_⟩⟩
 obtain rfl := si h
 exact ⟨rfl, _, rfl, (en [2, 3, 4, 5] ⟨rfl, rfl⟩ (.agg_l ⟨.s, .o, .o, .o, .b, .o, ⟨⟩⟩) ⟨nw, nw, nw, nw, ⟨⟩⟩)⟩
def m_s_OptimizeFunc_L2 (a0 : TFunc) (s12 : Str) (l13 : List TParam) (l14 : List TParam) (l15 : List Str) (b16 : Bool) (l17 : List TIns) (y18 : Int) : Option (Str × (List TParam) × (List TParam) × (List Str) × Bool × (List TIns)) :=
 (if y18 < 4 then
 m_s_IsFunc a0 >>= fun v22 =>
 (if v22 = true then
 m_s_FoldCode (TFunc.mk s12 l13 l14 l15 b16 l17) >>= fun v25 =>
 m_s_ThreadCode v25 >>= fun v27 =>
 m_s_DropCode v27 >>= fun (v29, v30) =>
 m_s_OptimizeFunc_L2 a0 v29.fName v29.fParams v29.fUses v29.fSlots v29.fGen v29.fCode (W64 (y18 + 1))
 else
 some (s12, l13, l14, l15, b16, l17))
 else
 some (s12, l13, l14, l15, b16, l17))
partial_fixpoint
def m_s_OptimizeFunc (a0 : TFunc) : Option (TFunc) :=
 m_s_l30Copy a0 >>= fun v1 =>
 (
 m_s_OptimizeFunc_L2 a0 v1.fName v1.fParams v1.fUses v1.fSlots v1.fGen v1.fCode 0
 : Option (Str × (List TParam) × (List TParam) × (List Str) × Bool × (List TIns))) >>= fun (s3, l4, l5, l6, b7, l8) =>
 some (TFunc.mk s3 l4 l5 l6 b7 l8)
theorem ok_s_OptimizeFunc {a0 : TFunc} {r : TFunc} (h : m_s_OptimizeFunc a0 = some r) : ACall Tryz.prog 15 [.agg a0.lit] [] (fun res h => res = .agg r.lit ∧ h = []) := by
 refine vc1 Tryz.func15 ?_
 unfold m_s_OptimizeFunc at h
 refine .d (.d ⟨rfl, _, rfl, (bk h fun v1 hv2 h => (pcF (own_s_l30Copy hv2) (.agg [.str v1.fName, .own 2 0 0 v1.fParams.length, .own 3 0 0 v1.fUses.length, .own 4 0 0 v1.fSlots.length, .bool v1.fGen, .own 5 0 0 v1.fCode.length]) [.row 0 6 1 32 (fun _ => a0.lit), .row 0 6 1 32 (fun _ => [.str [], .nils, .nils, .nils, .bool false, .nils]), .row 0 2 v1.fParams.length 70 (row TParam.cells v1.fParams), .row 0 2 v1.fUses.length 70 (row TParam.cells v1.fUses), .row 0 1 v1.fSlots.length 9 (row cS v1.fSlots), .row 0 5 v1.fCode.length 46 (row TIns.cells v1.fCode)] ⟨rfl, _, fun _ => [.str v1.fName, .own 2 0 0 v1.fParams.length, .own 3 0 0 v1.fUses.length, .own 4 0 0 v1.fSlots.length, .bool v1.fGen, .own 5 0 0 v1.fCode.length], rfl, one_set rfl, ?_⟩))⟩)
 obtain ⟨o9, ho10, hk11⟩ := bd h
 replace h := ho10
 refine .cut (fun σ η => ∃ s3, ∃ l4, ∃ l5, ∃ l6, ∃ b7, ∃ l8, (s3, l4, l5, l6, b7, l8) = o9 ∧ σ = [(2, .optr 0 0 0 0), (3, .optr 1 0 0 0)] ∧ η = [.row 0 6 1 32 (fun _ => [.str [], .nils, .nils, .nils, .bool false, .nils]), .row 0 6 1 32 (fun _ => [.str s3, sl 2 TParam.cells l4, sl 2 TParam.cells l5, sl 1 cS l6, .bool b7, sl 5 TIns.cells l8])]) ?_ ?_
 refine .d ?_
 refine le (m_s_OptimizeFunc_L2.partial_correctness a0 (motive := fun s12 l13 l14 l15 b16 l17 y18 o32 => o9 = o32 → LoopAt _ _ [(1, .optr 0 0 0 0), (2, .optr 1 0 0 0), (3, .optr 2 0 0 0), (4, .int .i64 y18)] [.row 0 6 1 32 (fun _ => a0.lit), .row 0 6 1 32 (fun _ => [.str [], .nils, .nils, .nils, .bool false, .nils]), .row 0 6 1 32 (fun _ => [.str s12, sl 2 TParam.cells l13, sl 2 TParam.cells l14, sl 1 cS l15, .bool b16, sl 5 TIns.cells l17])]) ?_ v1.fName v1.fParams v1.fUses v1.fSlots v1.fGen v1.fCode 0 o9 h rfl) (tk [0, 1, 6] ⟨.p, .p, .p, .i, ⟨⟩⟩ ⟨(nbp rfl), (nb rfl ⟨.s, .nils, .nils, .nils, .b, .nils, ⟨⟩⟩), (nb rfl ⟨.s, .r, .r, .r, .b, .r, ⟨⟩⟩), ⟨⟩⟩)
 intro F20 ih19 s12 l13 l14 l15 b16 l17 y18 o32 h hr33
 subst hr33
 refine LoopAt.round (.d (.d (sD h (fun hb21 h => ?_) (fun hb21 h => ?_))))
 refine ⟨rfl, _, rfl, (.t (bk h fun v22 hv23 h => (pcP (ok_s_IsFunc hv23) (.t (sV h (fun hb24 h => ?_) (fun hb24 h => ?_))))))⟩
 refine .d (.d ⟨rfl, _, rfl, (bk h fun v25 hv26 h => (pcP (ok_s_FoldCode hv26) ⟨rfl, _, fun _ => [.str v25.fName, sl 2 TParam.cells v25.fParams, sl 2 TParam.cells v25.fUses, sl 1 cS v25.fSlots, .bool v25.fGen, sl 5 TIns.cells v25.fCode], rfl, one_set rfl, (.d ⟨rfl, _, rfl, (bk h fun v27 hv28 h => (pcP (ok_s_ThreadCode hv28) ⟨rfl, _, fun _ => [.str v27.fName, sl 2 TParam.cells v27.fParams, sl 2 TParam.cells v27.fUses, sl 1 cS v27.fSlots, .bool v27.fGen, sl 5 TIns.cells v27.fCode], rfl, one_set rfl, (.d ⟨rfl, _, rfl, ?_⟩)⟩))⟩)⟩))⟩)
 obtain ⟨⟨v29, v30⟩, hv31, h⟩ := bd h
 exact pcP (ok_s_DropCode hv31) ⟨rfl, _, fun _ => [.str v29.fName, sl 2 TParam.cells v29.fParams, sl 2 TParam.cells v29.fUses, sl 1 cS v29.fSlots, .bool v29.fGen, sl 5 TIns.cells v29.fCode], rfl, one_set rfl, ⟨rfl, _, rfl, ⟨rfl, _, fun _ => [.str v29.fName, sl 2 TParam.cells v29.fParams, sl 2 TParam.cells v29.fUses, sl 1 cS v29.fSlots, .bool v29.fGen, sl 5 TIns.cells v29.fCode], rfl, one_set rfl, (lg (ih19 _ _ _ _ _ _ _ _ h rfl) (tk [0, 1, 2] ⟨.p, .p, .p, .i, ⟨⟩⟩ ⟨(nbp rfl), (nb rfl ⟨.s, .nils, .nils, .nils, .b, .nils, ⟨⟩⟩), (nbp rfl), ⟨⟩⟩))⟩⟩⟩
 exact ct ⟨_, _, _, _, _, _, si h, rfl, rfl⟩ (tk [1, 2] ⟨.p, .p, ⟨⟩⟩ ⟨(nb rfl ⟨.s, .nils, .nils, .nils, .b, .nils, ⟨⟩⟩), (nbp rfl), ⟨⟩⟩)
 exact .f (.f (.f (ct ⟨_, _, _, _, _, _, si h, rfl, rfl⟩ (tk [1, 2] ⟨.p, .p, ⟨⟩⟩ ⟨(nb rfl ⟨.s, .nils, .nils, .nils, .b, .nils, ⟨⟩⟩), (nbp rfl), ⟨⟩⟩))))
 rintro _ _ ⟨s3, l4, l5, l6, b7, l8, rfl, rfl, rfl⟩
 replace h := hk11
 refine .d ⟨rfl, _, rfl, ⟨rfl, _, fun _ => [.str s3, sl 2 TParam.cells l4, sl 2 TParam.cells l5, sl 1 cS l6, .bool b7, sl 5 TIns.cells l8], rfl, one_set rfl, ?_⟩⟩
 obtain rfl := si h
 exact ⟨rfl, _, rfl, (en [] ⟨rfl, rfl⟩ (.agg_l ⟨.s, .l, .l, .l, .b, .l, ⟨⟩⟩) ⟨⟩)⟩
end Go.Am
