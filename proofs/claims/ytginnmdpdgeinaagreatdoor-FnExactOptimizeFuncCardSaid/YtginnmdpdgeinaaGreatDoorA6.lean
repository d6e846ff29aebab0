/- Models of Go functions, and their walks. (Printed by tools/mg.py.) -/
import Derived.Test.YtginnmdpdgeinaaGreatDoorA5
set_option linter.unusedVariables false
set_option linter.unusedSimpArgs false
set_option maxRecDepth 100000
namespace Go.Am
open Go Go.RowKit Go.Proofs
def m_s_l31Walk_L2 (a0 : List TIns) (a2 : Int) (y5 : Int) (y6 : Int) : Option ((Int) ⊕ (Int × Bool)) :=
 (if y6 ≤ (a0.length : Int) then
 (if y5 = a2 then
 some (.inr (y5, true))
 else
 (if y6 = (a0.length : Int) then
 m_s_l31Walk_L2 a0 a2 y5 (W64 (y6 + 1))
 else
 idx a0 y5 >>= fun x12 =>
 (if x12.fOp = 27 then
 idx a0 y5 >>= fun x15 =>
 m_s_l31Walk_L2 a0 a2 x15.fA (W64 (y6 + 1))
 else
 idx a0 y5 >>= fun x17 =>
 (if x17.fOp = 1 then
 (if (W64 (y5 + 1)) < (a0.length : Int) then
 m_s_l31Walk_L2 a0 a2 (W64 (y5 + 1)) (W64 (y6 + 1))
 else
 some (.inr (y5, false)))
 else
 some (.inr (y5, false))))))
 else
 some (.inl y5))
partial_fixpoint
def m_s_l31Walk (a0 : List TIns) (a1 : Int) (a2 : Int) : Option (Int × Bool) :=
 ((
 m_s_l31Walk_L2 a0 a2 a1 0
 : Option ((Int) ⊕ (Int × Bool))) >>= fun o2 => match o2 with
 | .inr r => some r
 | .inl y1 =>
 some (y1, false)
 )
theorem ok_s_l31Walk {a0 : List TIns} {a1 : Int} {a2 : Int} {r : Int × Bool} (h : m_s_l31Walk a0 a1 a2 = some r) : ACall Tryz.prog 83 [sl 5 TIns.cells a0, .int .i64 a1, .int .i64 a2] [] (fun res h => res = .tup [.int .i64 r.1, .bool r.2] ∧ h = []) := by
 refine vc1 Tryz.func83 ?_
 unfold m_s_l31Walk at h
 refine .d (.d ?_)
 obtain ⟨o2, ho3, hk4⟩ := bd h
 replace h := ho3
 refine .cut (fun σ η => ∃ y1, .inl y1 = o2 ∧ σ = [(8, .int .i64 y1)] ∧ η = []) ?_ ?_
 refine .d ?_
 refine le (m_s_l31Walk_L2.partial_correctness a0 a2 (motive := fun y5 y6 o21 => o2 = o21 → LoopAt _ _ [(0, sl 5 TIns.cells a0), (2, .int .i64 a2), (8, .int .i64 y5), (9, .int .i64 y6)] []) ?_ a1 0 o2 h rfl) (tk [] ⟨.l, .i, .i, .i, ⟨⟩⟩ ⟨⟩)
 intro F8 ih7 y5 y6 o21 h hr22
 subst hr22
 refine LoopAt.round (.d (.d (sD h (fun hb9 h => ?_) (fun hb9 h => ?_))))
 refine .d (.d (.d (sE h (fun hb10 h => ?_) (fun hb10 h => ?_))))
 refine .d ?_
 obtain rfl := si h
 replace h := hk4
 obtain rfl := si h
 exact en [] ⟨rfl, rfl⟩ (.tup_l ⟨.i, .b, ⟨⟩⟩) ⟨⟩
 refine .d (sE h (fun hb11 h => ?_) (fun hb11 h => ?_))
 exact lg (ih7 _ _ _ h rfl) (tk [] ⟨.l, .i, .i, .i, ⟨⟩⟩ ⟨⟩)
 refine .d (bk h fun x12 hx13 h => ⟨idx_bd hx13, _, (idx_row hx13).trans (TIns.cells_eq x12), (sE h (fun hb14 h => ?_) (fun hb14 h => ?_))⟩)
 exact bk h fun x15 hx16 h => ⟨idx_bd hx16, _, (idx_row hx16).trans (TIns.cells_eq x15), (lg (ih7 _ _ _ h rfl) (tk [] ⟨.l, .i, .i, .i, ⟨⟩⟩ ⟨⟩))⟩
 refine .d (bk h fun x17 hx18 h => ⟨idx_bd hx18, _, (idx_row hx18).trans (TIns.cells_eq x17), (sE h (fun hb19 h => ?_) (fun hb19 h => ?_))⟩)
 refine .t (.t (.t (.t (.t (sD h (fun hb20 h => ?_) (fun hb20 h => ?_))))))
 exact lg (ih7 _ _ _ h rfl) (tk [] ⟨.l, .i, .i, .i, ⟨⟩⟩ ⟨⟩)
 refine .d ?_
 obtain rfl := si h
 replace h := hk4
 obtain rfl := si h
 exact en [] ⟨rfl, rfl⟩ (.tup_l ⟨.i, .b, ⟨⟩⟩) ⟨⟩
 refine .f (.f (.f (.f (.f (.f (.d ?_))))))
 obtain rfl := si h
 replace h := hk4
 obtain rfl := si h
 exact en [] ⟨rfl, rfl⟩ (.tup_l ⟨.i, .b, ⟨⟩⟩) ⟨⟩
 exact ct ⟨_, si h, rfl, rfl⟩ (tk [] ⟨.i, ⟨⟩⟩ ⟨⟩)
 rintro _ _ ⟨y1, rfl, rfl, rfl⟩
 replace h := hk4
 refine .d ?_
 obtain rfl := si h
 exact en [] ⟨rfl, rfl⟩ (.tup_l ⟨.i, .b, ⟨⟩⟩) ⟨⟩
def m_i_walkFrom_L2 (a0 : List TIns) (y5 : Int) (l6 : List Int) (y7 : Int) : Option (((List Int)) ⊕ (List Int)) :=
 (if y7 < (a0.length : Int) then
 idx a0 y5 >>= fun x11 =>
 (if x11.fOp = 27 then
 idx a0 y5 >>= fun x14 =>
 lapp 8 l6 ([x14.fA] : List Int) >>= fun l16 =>
 m_i_walkFrom_L2 a0 x14.fA l16 (W64 (y7 + 1))
 else
 idx a0 y5 >>= fun x18 =>
 (if x18.fOp = 1 then
 (if (W64 (y5 + 1)) < (a0.length : Int) then
 lapp 8 l6 ([W64 (y5 + 1)] : List Int) >>= fun l22 =>
 m_i_walkFrom_L2 a0 (W64 (y5 + 1)) l22 (W64 (y7 + 1))
 else
 some (.inr l6))
 else
 some (.inr l6)))
 else
 some (.inl l6))
partial_fixpoint
def m_i_walkFrom (a0 : List TIns) (a1 : Int) : Option ((List Int)) :=
 ((
 m_i_walkFrom_L2 a0 a1 ([a1] : List Int) 0
 : Option (((List Int)) ⊕ (List Int))) >>= fun o2 => match o2 with
 | .inr r => some r
 | .inl l1 =>
 some l1
 )
theorem ok_i_walkFrom {a0 : List TIns} {a1 : Int} {r : (List Int)} (h : m_i_walkFrom a0 a1 = some r) : ACall Tryz.prog 86 [sl 5 TIns.cells a0, .int .i64 a1] [] (fun res h => res = sl 1 cI r ∧ h = []) := by
 refine vc1 Tryz.func86 ?_
 unfold m_i_walkFrom at h
 refine .d (.d ⟨row cI ([a1] : List Int), row_lit cI ([a1] : List Int) rfl (cll_refl rfl), ?_⟩)
 obtain ⟨o2, ho3, hk4⟩ := bd h
 replace h := ho3
 refine .cut (fun σ η => ∃ l1, .inl l1 = o2 ∧ σ = [(5, .own 0 0 0 l1.length)] ∧ η = [.row 0 1 l1.length 3 (row cI l1)]) ?_ ?_
 refine .d ?_
 refine le (m_i_walkFrom_L2.partial_correctness a0 (motive := fun y5 l6 y7 o24 => o2 = o24 → LoopAt _ _ [(0, sl 5 TIns.cells a0), (1, .int .i64 y5), (5, .own 0 0 0 l6.length), (9, .int .i64 (a0.length : Int)), (10, .int .i64 y7)] [.row 0 1 l6.length 3 (row cI l6)]) ?_ a1 ([a1] : List Int) 0 o2 h rfl) (tk [0] ⟨.l, .i, .o, .i, .i, ⟨⟩⟩ ⟨nw, ⟨⟩⟩)
 intro F9 ih8 y5 l6 y7 o24 h hr25
 subst hr25
 refine LoopAt.round (.d (.d (sD h (fun hb10 h => ?_) (fun hb10 h => ?_))))
 refine .d (.d (.d (bk h fun x11 hx12 h => ⟨idx_bd hx12, _, (idx_row hx12).trans (TIns.cells_eq x11), (sE h (fun hb13 h => ?_) (fun hb13 h => ?_))⟩)))
 exact bk h fun x14 hx15 h => ⟨idx_bd hx15, _, (idx_row hx15).trans (TIns.cells_eq x14), ⟨row cI ([x14.fA] : List Int), row_lit cI ([x14.fA] : List Int) rfl (cll_refl rfl), (bk h fun l16 hx17 h => ⟨rfl, rfl, lapp_bd hx17, l16.length, row cI l16, lapp_len hx17, lapp_row hx17 shows_all (src_own shows_all), (lg (ih8 _ _ _ _ h rfl) (tk [0] ⟨.l, .i, .o, .i, .i, ⟨⟩⟩ ⟨nw, ⟨⟩⟩))⟩)⟩⟩
 refine .d (bk h fun x18 hx19 h => ⟨idx_bd hx19, _, (idx_row hx19).trans (TIns.cells_eq x18), (sE h (fun hb20 h => ?_) (fun hb20 h => ?_))⟩)
 refine .t (.t (.t (.t (.t (sD h (fun hb21 h => ?_) (fun hb21 h => ?_))))))
 exact ⟨row cI ([W64 (y5 + 1)] : List Int), row_lit cI ([W64 (y5 + 1)] : List Int) rfl (cll_refl rfl), (bk h fun l22 hx23 h => ⟨rfl, rfl, lapp_bd hx23, l22.length, row cI l22, lapp_len hx23, lapp_row hx23 shows_all (src_own shows_all), (lg (ih8 _ _ _ _ h rfl) (tk [0] ⟨.l, .i, .o, .i, .i, ⟨⟩⟩ ⟨nw, ⟨⟩⟩))⟩)⟩
 refine .d ?_
 obtain rfl := si h
 replace h := hk4
 obtain rfl := si h
 exact en [] ⟨rfl, rfl⟩ .r ⟨⟩
 refine .f (.f (.f (.f (.f (.f (.d ?_))))))
 obtain rfl := si h
 replace h := hk4
 obtain rfl := si h
 exact en [] ⟨rfl, rfl⟩ .r ⟨⟩
 exact ct ⟨_, si h, rfl, rfl⟩ (tk [0] ⟨.o, ⟨⟩⟩ ⟨nw, ⟨⟩⟩)
 rintro _ _ ⟨l1, rfl, rfl, rfl⟩
 replace h := hk4
 refine .d ?_
 obtain rfl := si h
 exact en [] ⟨rfl, rfl⟩ .r ⟨⟩
def m_i_moved_L4 (a0 : TIns) (a1 : List Int) (y12 : Int) (y13 : Int) : Option (Int) :=
 (if y13 < (a1.length : Int) then
 idx a1 y13 >>= fun x17 =>
 (if x17 < a0.fA then
 m_i_moved_L4 a0 a1 (W64 (y12 + 1)) (W64 (y13 + 1))
 else
 m_i_moved_L4 a0 a1 y12 (W64 (y13 + 1)))
 else
 some y12)
partial_fixpoint
def m_i_moved (a0 : TIns) (a1 : List Int) : Option (TIns) :=
 (
 m_i_HasTarget a0.fOp >>= fun v5 =>
 (if v5 = true then
 (
 m_i_moved_L4 a0 a1 0 0
 : Option (Int)) >>= fun y8 =>
 some y8
 else
 some a0.fA)
 : Option (Int)) >>= fun y1 =>
 some (TIns.mk a0.fOp y1 a0.fB a0.fS a0.fT)
theorem ok_i_moved {a0 : TIns} {a1 : List Int} {r : TIns} (h : m_i_moved a0 a1 = some r) : ACall Tryz.prog 84 [.agg a0.lit, sl 1 cI a1] [] (fun res h => res = .agg r.lit ∧ h = []) := by
 refine vc1 Tryz.func84 ?_
 unfold m_i_moved at h
 refine .d ?_
 obtain ⟨o2, ho3, hk4⟩ := bd h
 replace h := ho3
 refine .cut (fun σ η => ∃ y1, y1 = o2 ∧ σ = [(2, .optr 0 0 0 0), (4, .optr 1 0 0 0)] ∧ η = [.row 0 5 1 46 (fun _ => [.int .i64 a0.fOp, .int .i64 y1, .int .i64 a0.fB, .str a0.fS, .str a0.fT]), .row 0 5 1 46 (fun _ => [.int .i64 0, .int .i64 0, .int .i64 0, .str [], .str []])]) ?_ ?_
 refine .d ⟨rfl, ⟨rfl, _, rfl, (bk h fun v5 hv6 h => (pcP (ok_i_HasTarget hv6) (sV h (fun hb7 h => ?_) (fun hb7 h => ?_))))⟩⟩
 refine .d ?_
 obtain ⟨o9, ho10, hk11⟩ := bd h
 replace h := ho10
 refine .cut (fun σ η => ∃ y8, y8 = o9 ∧ σ = [(2, .optr 0 0 0 0), (4, .optr 1 0 0 0), (5, .int .i64 y8)] ∧ η = [.row 0 5 1 46 (fun _ => a0.lit), .row 0 5 1 46 (fun _ => [.int .i64 0, .int .i64 0, .int .i64 0, .str [], .str []])]) ?_ ?_
 refine .d ?_
 refine le (m_i_moved_L4.partial_correctness a0 a1 (motive := fun y12 y13 o20 => o9 = o20 → LoopAt _ _ [(2, .optr 0 0 0 0), (4, .optr 1 0 0 0), (5, .int .i64 y12), (11, sl 1 cI a1), (12, .int .i64 (a1.length : Int)), (13, .int .i64 y13)] [.row 0 5 1 46 (fun _ => a0.lit), .row 0 5 1 46 (fun _ => [.int .i64 0, .int .i64 0, .int .i64 0, .str [], .str []])]) ?_ 0 0 o9 h rfl) (tk [0, 1] ⟨.p, .p, .i, .l, .i, .i, ⟨⟩⟩ ⟨(nbp rfl), (nbp rfl), ⟨⟩⟩)
 intro F15 ih14 y12 y13 o20 h hr21
 subst hr21
 refine LoopAt.round (.d (.d (sD h (fun hb16 h => ?_) (fun hb16 h => ?_))))
 refine .d (.d (bk h fun x17 hx18 h => ⟨idx_bd hx18, _, (idx_row hx18).trans rfl, (.d ⟨rfl, ⟨rfl, _, rfl, (sD h (fun hb19 h => ?_) (fun hb19 h => ?_))⟩⟩)⟩))
 exact lg (ih14 _ _ _ h rfl) (tk [0, 1] ⟨.p, .p, .i, .l, .i, .i, ⟨⟩⟩ ⟨(nbp rfl), (nbp rfl), ⟨⟩⟩)
 exact lg (ih14 _ _ _ h rfl) (tk [0, 1] ⟨.p, .p, .i, .l, .i, .i, ⟨⟩⟩ ⟨(nbp rfl), (nbp rfl), ⟨⟩⟩)
 exact ct ⟨_, si h, rfl, rfl⟩ (tk [0, 1] ⟨.p, .p, .i, ⟨⟩⟩ ⟨(nbp rfl), (nbp rfl), ⟨⟩⟩)
 rintro _ _ ⟨y8, rfl, rfl, rfl⟩
 replace h := hk11
 exact ⟨rfl, ⟨rfl, _, fun _ => [.int .i64 a0.fOp, .int .i64 y8, .int .i64 a0.fB, .str a0.fS, .str a0.fT], rfl, one_set rfl, (ct ⟨_, si h, rfl, rfl⟩ (tk [0, 1] ⟨.p, .p, ⟨⟩⟩ ⟨(nbp rfl), (nbp rfl), ⟨⟩⟩))⟩⟩
 exact ct ⟨_, si h, rfl, rfl⟩ (tk [0, 1] ⟨.p, .p, ⟨⟩⟩ ⟨(nbp rfl), (nbp rfl), ⟨⟩⟩)
 rintro _ _ ⟨y1, rfl, rfl, rfl⟩
 replace h := hk4
 refine .d ⟨rfl, _, rfl, ⟨rfl, _, fun _ => [.int .i64 a0.fOp, .int .i64 y1, .int .i64 a0.fB, .str a0.fS, .str a0.fT], rfl, one_set rfl, ?_⟩⟩
 obtain rfl := si h
 exact ⟨rfl, _, rfl, (en [] ⟨rfl, rfl⟩ (.agg_l ⟨.i, .i, .i, .s, .s, ⟨⟩⟩) ⟨⟩)⟩
theorem own_i_copyFunc {a0 : TFunc} {r : TFunc} (h : m_i_copyFunc a0 = some r) : ACall Tryz.prog 37 [.agg a0.lit] [] (fun res h => res = .agg [.str r.fName, .own 0 0 0 r.fParams.length, .own 1 0 0 r.fUses.length, .own 2 0 0 r.fSlots.length, .bool r.fGen, .own 3 0 0 r.fCode.length] ∧ h = [.row 0 2 r.fParams.length 70 (row TParam.cells r.fParams), .row 0 2 r.fUses.length 70 (row TParam.cells r.fUses), .row 0 1 r.fSlots.length 9 (row cS r.fSlots), .row 0 5 r.fCode.length 46 (row TIns.cells r.fCode)]) := by
 refine vc1 Tryz.func37 ?_
 unfold m_i_copyFunc at h
 refine .d (.d ⟨rfl, _, rfl, ⟨rfl, _, fun _ => [.str a0.fName, sl 2 TParam.cells a0.fParams, sl 2 TParam.cells a0.fUses, sl 1 cS a0.fSlots, .bool a0.fGen, sl 5 TIns.cells a0.fCode], rfl, one_set rfl, (.d ⟨rfl, ⟨rfl, _, rfl, (bk h fun v1 hv2 h => (pcF (ok_CloneP hv2) (.own 3 0 0 v1.length) [.row 0 6 1 32 (fun _ => a0.lit), .row 0 6 1 32 (fun _ => [.str [], .nils, .nils, .nils, .bool false, .nils]), .row 0 6 1 32 (fun _ => a0.lit), .row 0 2 v1.length 70 (row TParam.cells v1)] ⟨rfl, ⟨rfl, _, fun _ => [.str a0.fName, .own 3 0 0 v1.length, sl 2 TParam.cells a0.fUses, sl 1 cS a0.fSlots, .bool a0.fGen, sl 5 TIns.cells a0.fCode], rfl, one_set rfl, (.d ⟨rfl, ⟨rfl, _, rfl, (bk h fun v3 hv4 h => ?_)⟩⟩)⟩⟩))⟩⟩)⟩⟩)
 refine pcF (ok_CloneP hv4) (.own 4 0 0 v3.length) [.row 0 6 1 32 (fun _ => a0.lit), .row 0 6 1 32 (fun _ => [.str [], .nils, .nils, .nils, .bool false, .nils]), .row 0 6 1 32 (fun _ => [.str a0.fName, .own 3 0 0 v1.length, sl 2 TParam.cells a0.fUses, sl 1 cS a0.fSlots, .bool a0.fGen, sl 5 TIns.cells a0.fCode]), .row 0 2 v1.length 70 (row TParam.cells v1), .row 0 2 v3.length 70 (row TParam.cells v3)] ⟨rfl, ⟨rfl, _, fun _ => [.str a0.fName, .own 3 0 0 v1.length, .own 4 0 0 v3.length, sl 1 cS a0.fSlots, .bool a0.fGen, sl 5 TIns.cells a0.fCode], rfl, one_set rfl, (.d ⟨rfl, ⟨rfl, _, rfl, (bk h fun v5 hv6 h => (pcF (ok_CloneS hv6) (.own 5 0 0 v5.length) [.row 0 6 1 32 (fun _ => a0.lit), .row 0 6 1 32 (fun _ => [.str [], .nils, .nils, .nils, .bool false, .nils]), .row 0 6 1 32 (fun _ => [.str a0.fName, .own 3 0 0 v1.length, .own 4 0 0 v3.length, sl 1 cS a0.fSlots, .bool a0.fGen, sl 5 TIns.cells a0.fCode]), .row 0 2 v1.length 70 (row TParam.cells v1), .row 0 2 v3.length 70 (row TParam.cells v3), .row 0 1 v5.length 9 (row cS v5)] ⟨rfl, ⟨rfl, _, fun _ => [.str a0.fName, .own 3 0 0 v1.length, .own 4 0 0 v3.length, .own 5 0 0 v5.length, .bool a0.fGen, sl 5 TIns.cells a0.fCode], rfl, one_set rfl, (.d ⟨rfl, ⟨rfl, _, rfl, (bk h fun v7 hv8 h => (pcF (ok_CloneI hv8) (.own 6 0 0 v7.length) [.row 0 6 1 32 (fun _ => a0.lit), .row 0 6 1 32 (fun _ => [.str [], .nils, .nils, .nils, .bool false, .nils]), .row 0 6 1 32 (fun _ => [.str a0.fName, .own 3 0 0 v1.length, .own 4 0 0 v3.length, .own 5 0 0 v5.length, .bool a0.fGen, sl 5 TIns.cells a0.fCode]), .row 0 2 v1.length 70 (row TParam.cells v1), .row 0 2 v3.length 70 (row TParam.cells v3), .row 0 1 v5.length 9 (row cS v5), .row 0 5 v7.length 46 (row TIns.cells v7)] ?_))⟩⟩)⟩⟩))⟩⟩)⟩⟩
 refine ⟨rfl, ⟨rfl, _, fun _ => [.str a0.fName, .own 3 0 0 v1.length, .own 4 0 0 v3.length, .own 5 0 0 v5.length, .bool a0.fGen, .own 6 0 0 v7.length], rfl, one_set rfl, (.d ⟨rfl, _, rfl, ⟨rfl, _, fun _ => [.str a0.fName, .own 3 0 0 v1.length, .own 4 0 0 v3.length, .own 5 0 0 v5.length, .bool a0.fGen, .own 6 0 0 v7.length], rfl, one_set rfl, ?_⟩⟩)⟩⟩
 obtain rfl := si h
 exact ⟨rfl, _, rfl, (en [3, 4, 5, 6] ⟨rfl, rfl⟩ (.agg_l ⟨.s, .o, .o, .o, .b, .o, ⟨⟩⟩) ⟨nw, nw, nw, nw, ⟨⟩⟩)⟩
theorem own_s_l30Copy {a0 : TFunc} {r : TFunc} (h : m_s_l30Copy a0 = some r) : ACall Tryz.prog 35 [.agg a0.lit] [] (fun res h => res = .agg [.str r.fName, .own 0 0 0 r.fParams.length, .own 1 0 0 r.fUses.length, .own 2 0 0 r.fSlots.length, .bool r.fGen, .own 3 0 0 r.fCode.length] ∧ h = [.row 0 2 r.fParams.length 70 (row TParam.cells r.fParams), .row 0 2 r.fUses.length 70 (row TParam.cells r.fUses), .row 0 1 r.fSlots.length 9 (row cS r.fSlots), .row 0 5 r.fCode.length 46 (row TIns.cells r.fCode)]) := by
 refine vc1 Tryz.func35 ?_
 unfold m_s_l30Copy at h
 refine .d ?_
 obtain ⟨o2, ho3, hk4⟩ := bd h
 replace h := ho3
 refine .cut (fun σ η => ∃ l1, l1 = o2 ∧ σ = [(1, .optr 0 0 0 0), (2, .optr 2 0 0 0)] ∧ η = [.row 0 6 1 32 (fun _ => [.str a0.fName, .own 1 0 0 l1.length, sl 2 TParam.cells a0.fUses, sl 1 cS a0.fSlots, .bool a0.fGen, sl 5 TIns.cells a0.fCode]), .row 0 2 l1.length 70 (row TParam.cells l1), .row 0 6 1 32 (fun _ => [.str [], .nils, .nils, .nils, .bool false, .nils])]) ?_ ?_
 exact ⟨row TParam.cells ([] : List TParam), row_lit TParam.cells ([] : List TParam) rfl (cll_refl rfl), ⟨rfl, ⟨rfl, _, rfl, (bk h fun l5 hx6 h => ⟨rfl, lapp_bd hx6, l5.length, row TParam.cells l5, lapp_len hx6, lapp_row hx6 shows_all src_slc, ⟨rfl, ⟨rfl, _, fun _ => [.str a0.fName, .own 2 (0 + 1) 0 l5.length, sl 2 TParam.cells a0.fUses, sl 1 cS a0.fSlots, .bool a0.fGen, sl 5 TIns.cells a0.fCode], rfl, one_set rfl, (ct ⟨_, si h, rfl, rfl⟩ (tk [0, 2, 1] ⟨.p, .p, ⟨⟩⟩ ⟨(nb rfl ⟨.s, .o, .l, .l, .b, .l, ⟨⟩⟩), nw, (nb rfl ⟨.s, .nils, .nils, .nils, .b, .nils, ⟨⟩⟩), ⟨⟩⟩))⟩⟩⟩)⟩⟩⟩
 rintro _ _ ⟨l1, rfl, rfl, rfl⟩
 replace h := hk4
 obtain ⟨o8, ho9, hk10⟩ := bd h
 replace h := ho9
 refine .cut (fun σ η => ∃ l7, l7 = o8 ∧ σ = [(1, .optr 0 0 0 0), (2, .optr 3 0 0 0)] ∧ η = [.row 0 6 1 32 (fun _ => [.str a0.fName, .own 1 0 0 l1.length, .own 2 0 0 l7.length, sl 1 cS a0.fSlots, .bool a0.fGen, sl 5 TIns.cells a0.fCode]), .row 0 2 l1.length 70 (row TParam.cells l1), .row 0 2 l7.length 70 (row TParam.cells l7), .row 0 6 1 32 (fun _ => [.str [], .nils, .nils, .nils, .bool false, .nils])]) ?_ ?_
 exact ⟨row TParam.cells ([] : List TParam), row_lit TParam.cells ([] : List TParam) rfl (cll_refl rfl), ⟨rfl, ⟨rfl, _, rfl, (bk h fun l11 hx12 h => ⟨rfl, lapp_bd hx12, l11.length, row TParam.cells l11, lapp_len hx12, lapp_row hx12 shows_all src_slc, ⟨rfl, ⟨rfl, _, fun _ => [.str a0.fName, .own 1 0 0 l1.length, .own 3 (0 + 1) 0 l11.length, sl 1 cS a0.fSlots, .bool a0.fGen, sl 5 TIns.cells a0.fCode], rfl, one_set rfl, (ct ⟨_, si h, rfl, rfl⟩ (tk [0, 1, 3, 2] ⟨.p, .p, ⟨⟩⟩ ⟨(nb rfl ⟨.s, .o, .o, .l, .b, .l, ⟨⟩⟩), nw, nw, (nb rfl ⟨.s, .nils, .nils, .nils, .b, .nils, ⟨⟩⟩), ⟨⟩⟩))⟩⟩⟩)⟩⟩⟩
 rintro _ _ ⟨l7, rfl, rfl, rfl⟩
 replace h := hk10
 obtain ⟨o14, ho15, hk16⟩ := bd h
 replace h := ho15
 refine .cut (fun σ η => ∃ l13, l13 = o14 ∧ σ = [(1, .optr 0 0 0 0), (2, .optr 4 0 0 0)] ∧ η = [.row 0 6 1 32 (fun _ => [.str a0.fName, .own 1 0 0 l1.length, .own 2 0 0 l7.length, .own 3 0 0 l13.length, .bool a0.fGen, sl 5 TIns.cells a0.fCode]), .row 0 2 l1.length 70 (row TParam.cells l1), .row 0 2 l7.length 70 (row TParam.cells l7), .row 0 1 l13.length 9 (row cS l13), .row 0 6 1 32 (fun _ => [.str [], .nils, .nils, .nils, .bool false, .nils])]) ?_ ?_
 exact ⟨row cS ([] : List Str), row_lit cS ([] : List Str) rfl (cll_refl rfl), ⟨rfl, ⟨rfl, _, rfl, (bk h fun l17 hx18 h => ⟨rfl, lapp_bd hx18, l17.length, row cS l17, lapp_len hx18, lapp_row hx18 shows_all src_slc, ⟨rfl, ⟨rfl, _, fun _ => [.str a0.fName, .own 1 0 0 l1.length, .own 2 0 0 l7.length, .own 4 (0 + 1) 0 l17.length, .bool a0.fGen, sl 5 TIns.cells a0.fCode], rfl, one_set rfl, (ct ⟨_, si h, rfl, rfl⟩ (tk [0, 1, 2, 4, 3] ⟨.p, .p, ⟨⟩⟩ ⟨(nb rfl ⟨.s, .o, .o, .o, .b, .l, ⟨⟩⟩), nw, nw, nw, (nb rfl ⟨.s, .nils, .nils, .nils, .b, .nils, ⟨⟩⟩), ⟨⟩⟩))⟩⟩⟩)⟩⟩⟩
 rintro _ _ ⟨l13, rfl, rfl, rfl⟩
 replace h := hk16
 refine .d ⟨row TIns.cells ([] : List TIns), row_lit TIns.cells ([] : List TIns) rfl (cll_refl rfl), ⟨rfl, ⟨rfl, _, rfl, (bk h fun l19 hx20 h => ⟨rfl, lapp_bd hx20, l19.length, row TIns.cells l19, lapp_len hx20, lapp_row hx20 shows_all src_slc, ⟨rfl, ⟨rfl, _, fun _ => [.str a0.fName, .own 1 0 0 l1.length, .own 2 0 0 l7.length, .own 3 0 0 l13.length, .bool a0.fGen, .own 5 (0 + 1) 0 l19.length], rfl, one_set rfl, (.d ⟨rfl, _, rfl, ⟨rfl, _, fun _ => [.str a0.fName, .own 1 0 0 l1.length, .own 2 0 0 l7.length, .own 3 0 0 l13.length, .bool a0.fGen, .own 5 (0 + 1) 0 l19.length], rfl, one_set rfl, ?_⟩⟩)⟩⟩⟩)⟩⟩⟩
 obtain rfl := si h
 exact ⟨rfl, _, rfl, (en [1, 2, 3, 5] ⟨rfl, rfl⟩ (.agg_l ⟨.s, .o, .o, .o, .b, .o, ⟨⟩⟩) ⟨nw, nw, nw, nw, ⟨⟩⟩)⟩
def m_s_ThreadCode_L2 (a0 : TFunc) (l10 : List TIns) (y11 : Int) : Option ((List TIns)) :=
 (if y11 < (a0.fCode.length : Int) then
 idx a0.fCode y11 >>= fun x15 =>
 m_s_HasTarget x15.fOp >>= fun v17 =>
 (if v17 = true then
 idx a0.fCode y11 >>= fun x20 =>
 m_s_l31Walk a0.fCode x20.fA (-1) >>= fun (v22, v23) =>
 idx l10 y11 >>= fun x25 =>
 m_s_ThreadCode_L2 a0 (l10.set y11.toNat (TIns.mk x25.fOp v22 x25.fB x25.fS x25.fT)) (W64 (y11 + 1))
 else
 m_s_ThreadCode_L2 a0 l10 (W64 (y11 + 1)))
 else
 some l10)
partial_fixpoint
def m_s_ThreadCode (a0 : TFunc) : Option (TFunc) :=
 m_s_l30Copy a0 >>= fun v1 =>
 m_s_IsFunc a0 >>= fun v3 =>
 (if v3 = true then
 (
 m_s_ThreadCode_L2 a0 v1.fCode 0
 : Option ((List TIns))) >>= fun l6 =>
 some (TFunc.mk v1.fName v1.fParams v1.fUses v1.fSlots v1.fGen l6)
 else
 some v1)
theorem ok_s_ThreadCode {a0 : TFunc} {r : TFunc} (h : m_s_ThreadCode a0 = some r) : ACall Tryz.prog 45 [.agg a0.lit] [] (fun res h => res = .agg r.lit ∧ h = []) := by
 refine vc1 Tryz.func45 ?_
 unfold m_s_ThreadCode at h
 refine .d (.d ⟨rfl, _, rfl, (bk h fun v1 hv2 h => (pcF (own_s_l30Copy hv2) (.agg [.str v1.fName, .own 2 0 0 v1.fParams.length, .own 3 0 0 v1.fUses.length, .own 4 0 0 v1.fSlots.length, .bool v1.fGen, .own 5 0 0 v1.fCode.length]) [.row 0 6 1 32 (fun _ => a0.lit), .row 0 6 1 32 (fun _ => [.str [], .nils, .nils, .nils, .bool false, .nils]), .row 0 2 v1.fParams.length 70 (row TParam.cells v1.fParams), .row 0 2 v1.fUses.length 70 (row TParam.cells v1.fUses), .row 0 1 v1.fSlots.length 9 (row cS v1.fSlots), .row 0 5 v1.fCode.length 46 (row TIns.cells v1.fCode)] ⟨rfl, _, fun _ => [.str v1.fName, .own 2 0 0 v1.fParams.length, .own 3 0 0 v1.fUses.length, .own 4 0 0 v1.fSlots.length, .bool v1.fGen, .own 5 0 0 v1.fCode.length], rfl, one_set rfl, (.d (.d ⟨rfl, _, rfl, (bk h fun v3 hv4 h => (pcP (ok_s_IsFunc hv4) (sVn h (fun hb5 h => ?_) (fun hb5 h => ?_))))⟩))⟩))⟩)
 refine .d ⟨rfl, _, rfl, ⟨rfl, _, fun _ => [.str v1.fName, .own 2 0 0 v1.fParams.length, .own 3 0 0 v1.fUses.length, .own 4 0 0 v1.fSlots.length, .bool v1.fGen, .own 5 0 0 v1.fCode.length], rfl, one_set rfl, ?_⟩⟩
 obtain rfl := si h
 exact ⟨rfl, _, rfl, (en [] ⟨rfl, rfl⟩ (.agg_l ⟨.s, .r, .r, .r, .b, .r, ⟨⟩⟩) ⟨⟩)⟩
 obtain ⟨o7, ho8, hk9⟩ := bd h
 replace h := ho8
 refine .cut (fun σ η => ∃ l6, l6 = o7 ∧ σ = [(2, .optr 0 0 0 0), (3, .optr 1 0 0 0)] ∧ η = [.row 0 6 1 32 (fun _ => [.str [], .nils, .nils, .nils, .bool false, .nils]), .row 0 6 1 32 (fun _ => [.str v1.fName, .own 2 0 0 v1.fParams.length, .own 3 0 0 v1.fUses.length, .own 4 0 0 v1.fSlots.length, .bool v1.fGen, .own 5 0 0 l6.length]), .row 0 2 v1.fParams.length 70 (row TParam.cells v1.fParams), .row 0 2 v1.fUses.length 70 (row TParam.cells v1.fUses), .row 0 1 v1.fSlots.length 9 (row cS v1.fSlots), .row 0 5 l6.length 46 (row TIns.cells l6)]) ?_ ?_
 refine .d ?_
 refine le (m_s_ThreadCode_L2.partial_correctness a0 (motive := fun l10 y11 o27 => o7 = o27 → LoopAt _ _ [(1, .optr 0 0 0 0), (2, .optr 1 0 0 0), (3, .optr 2 0 0 0), (4, .int .i64 y11)] [.row 0 6 1 32 (fun _ => a0.lit), .row 0 6 1 32 (fun _ => [.str [], .nils, .nils, .nils, .bool false, .nils]), .row 0 6 1 32 (fun _ => [.str v1.fName, .own 3 0 0 v1.fParams.length, .own 4 0 0 v1.fUses.length, .own 5 0 0 v1.fSlots.length, .bool v1.fGen, .own 6 0 0 l10.length]), .row 0 2 v1.fParams.length 70 (row TParam.cells v1.fParams), .row 0 2 v1.fUses.length 70 (row TParam.cells v1.fUses), .row 0 1 v1.fSlots.length 9 (row cS v1.fSlots), .row 0 5 l10.length 46 (row TIns.cells l10)]) ?_ v1.fCode 0 o7 h rfl) (tk [0, 1, 6, 2, 3, 4, 5] ⟨.p, .p, .p, .i, ⟨⟩⟩ ⟨(nbp rfl), (nb rfl ⟨.s, .nils, .nils, .nils, .b, .nils, ⟨⟩⟩), (nb rfl ⟨.s, .o, .o, .o, .b, .o, ⟨⟩⟩), nw, nw, nw, nw, ⟨⟩⟩)
 intro F13 ih12 l10 y11 o27 h hr28
 subst hr28
 refine LoopAt.round (.d (.d ⟨rfl, ⟨rfl, _, rfl, (sD h (fun hb14 h => ?_) (fun hb14 h => ?_))⟩⟩))
 refine .d (.d ⟨rfl, ⟨rfl, _, rfl, (bk h fun x15 hx16 h => ⟨idx_bd hx16, _, (idx_row hx16).trans (TIns.cells_eq x15), (bk h fun v17 hv18 h => (pcP (ok_s_HasTarget hv18) (sV h (fun hb19 h => ?_) (fun hb19 h => ?_))))⟩)⟩⟩)
 refine .d (.float [(0, true), (1, true), (2, true), (3, true), (4, true), (5, true), (6, true), (7, true), (8, false), (9, true), (10, true), (11, true), (12, true), (13, true)] (by kernel_rfl) ?_)
 refine ⟨rfl, ⟨rfl, _, rfl, ⟨rfl, ⟨rfl, _, rfl, (bk h fun x20 hx21 h => ⟨idx_bd hx21, _, (idx_row hx21).trans (TIns.cells_eq x20), ?_⟩)⟩⟩⟩⟩
 obtain ⟨⟨v22, v23⟩, hv24, h⟩ := bd h
 exact pcP (ok_s_l31Walk hv24) ⟨rfl, ⟨rfl, _, rfl, (bk h fun x25 hx26 h => ⟨rfl, idx_bd hx26, _, Nat.zero_add _, ⟨rfl, ⟨rfl, _, row TIns.cells (l10.set y11.toNat (TIns.mk x25.fOp v22 x25.fB x25.fS x25.fT)), ((idx_row hx26).trans (TIns.cells_eq x25)), row_set (idx_lt hx26) (TIns.cells_eq (TIns.mk x25.fOp v22 x25.fB x25.fS x25.fT)) ⟨.same _, .same _, .same _, .same _, .same _, trivial⟩, (lg (ih12 _ _ _ h rfl) (tk [0, 1, 2, 3, 4, 5, 6] ⟨.p, .p, .p, .i, ⟨⟩⟩ ⟨(nbp rfl), (nb rfl ⟨.s, .nils, .nils, .nils, .b, .nils, ⟨⟩⟩), (nb rfl ⟨.s, .o, .o, .o, .b, (.ox ln), ⟨⟩⟩), nw, nw, nw, (nwx rfl ln), ⟨⟩⟩))⟩⟩⟩)⟩⟩
 exact lg (ih12 _ _ _ h rfl) (tk [0, 1, 2, 3, 4, 5, 6] ⟨.p, .p, .p, .i, ⟨⟩⟩ ⟨(nbp rfl), (nb rfl ⟨.s, .nils, .nils, .nils, .b, .nils, ⟨⟩⟩), (nb rfl ⟨.s, .o, .o, .o, .b, .o, ⟨⟩⟩), nw, nw, nw, nw, ⟨⟩⟩)
 exact ct ⟨_, si h, rfl, rfl⟩ (tk [1, 2, 3, 4, 5, 6] ⟨.p, .p, ⟨⟩⟩ ⟨(nb rfl ⟨.s, .nils, .nils, .nils, .b, .nils, ⟨⟩⟩), (nb rfl ⟨.s, .o, .o, .o, .b, .o, ⟨⟩⟩), nw, nw, nw, nw, ⟨⟩⟩)
 rintro _ _ ⟨l6, rfl, rfl, rfl⟩
 replace h := hk9
 refine .d ⟨rfl, _, rfl, ⟨rfl, _, fun _ => [.str v1.fName, .own 2 0 0 v1.fParams.length, .own 3 0 0 v1.fUses.length, .own 4 0 0 v1.fSlots.length, .bool v1.fGen, .own 5 0 0 l6.length], rfl, one_set rfl, ?_⟩⟩
 obtain rfl := si h
 exact ⟨rfl, _, rfl, (en [] ⟨rfl, rfl⟩ (.agg_l ⟨.s, .r, .r, .r, .b, .r, ⟨⟩⟩) ⟨⟩)⟩
def m_i_ThreadCode_L2 (a0 : TFunc) (l10 : List TIns) (y11 : Int) : Option ((List TIns)) :=
 (if y11 < (a0.fCode.length : Int) then
 idx a0.fCode y11 >>= fun x15 =>
 m_i_HasTarget x15.fOp >>= fun v17 =>
 (if v17 = true then
 m_i_walkFrom a0.fCode x15.fA >>= fun v20 =>
 idx v20 (W64 ((v20.length : Int) - 1)) >>= fun x22 =>
 idx l10 y11 >>= fun x24 =>
 m_i_ThreadCode_L2 a0 (l10.set y11.toNat (TIns.mk x24.fOp x22 x24.fB x24.fS x24.fT)) (W64 (y11 + 1))
 else
 m_i_ThreadCode_L2 a0 l10 (W64 (y11 + 1)))
 else
 some l10)
partial_fixpoint
def m_i_ThreadCode (a0 : TFunc) : Option (TFunc) :=
 m_i_copyFunc a0 >>= fun v1 =>
 m_i_IsFunc a0 >>= fun v3 =>
 (if v3 = true then
 (
 m_i_ThreadCode_L2 a0 v1.fCode 0
 : Option ((List TIns))) >>= fun l6 =>
 some (TFunc.mk v1.fName v1.fParams v1.fUses v1.fSlots v1.fGen l6)
 else
 some v1)
theorem ok_i_ThreadCode {a0 : TFunc} {r : TFunc} (h : m_i_ThreadCode a0 = some r) : ACall Tryz.prog 48 [.agg a0.lit] [] (fun res h => res = .agg [.str r.fName, .own 0 0 0 r.fParams.length, .own 1 0 0 r.fUses.length, .own 2 0 0 r.fSlots.length, .bool r.fGen, .own 3 0 0 r.fCode.length] ∧ h = [.row 0 2 r.fParams.length 70 (row TParam.cells r.fParams), .row 0 2 r.fUses.length 70 (row TParam.cells r.fUses), .row 0 1 r.fSlots.length 9 (row cS r.fSlots), .row 0 5 r.fCode.length 46 (row TIns.cells r.fCode)]) := by
 refine vc1 Tryz.func48 ?_
 unfold m_i_ThreadCode at h
 refine .d (.d ⟨rfl, _, rfl, (bk h fun v1 hv2 h => (pcF (own_i_copyFunc hv2) (.agg [.str v1.fName, .own 2 0 0 v1.fParams.length, .own 3 0 0 v1.fUses.length, .own 4 0 0 v1.fSlots.length, .bool v1.fGen, .own 5 0 0 v1.fCode.length]) [.row 0 6 1 32 (fun _ => a0.lit), .row 0 6 1 32 (fun _ => [.str [], .nils, .nils, .nils, .bool false, .nils]), .row 0 2 v1.fParams.length 70 (row TParam.cells v1.fParams), .row 0 2 v1.fUses.length 70 (row TParam.cells v1.fUses), .row 0 1 v1.fSlots.length 9 (row cS v1.fSlots), .row 0 5 v1.fCode.length 46 (row TIns.cells v1.fCode)] ⟨rfl, _, fun _ => [.str v1.fName, .own 2 0 0 v1.fParams.length, .own 3 0 0 v1.fUses.length, .own 4 0 0 v1.fSlots.length, .bool v1.fGen, .own 5 0 0 v1.fCode.length], rfl, one_set rfl, (.d (.d ⟨rfl, _, rfl, (bk h fun v3 hv4 h => (pcP (ok_i_IsFunc hv4) (sVn h (fun hb5 h => ?_) (fun hb5 h => ?_))))⟩))⟩))⟩)
 refine .d ⟨rfl, _, rfl, ⟨rfl, _, fun _ => [.str v1.fName, .own 2 0 0 v1.fParams.length, .own 3 0 0 v1.fUses.length, .own 4 0 0 v1.fSlots.length, .bool v1.fGen, .own 5 0 0 v1.fCode.length], rfl, one_set rfl, ?_⟩⟩
 obtain rfl := si h
 exact ⟨rfl, _, rfl, (en [2, 3, 4, 5] ⟨rfl, rfl⟩ (.agg_l ⟨.s, .o, .o, .o, .b, .o, ⟨⟩⟩) ⟨nw, nw, nw, nw, ⟨⟩⟩)⟩
 obtain ⟨o7, ho8, hk9⟩ := bd h
 replace h := ho8
 refine .cut (fun σ η => ∃ l6, l6 = o7 ∧ σ = [(2, .optr 0 0 0 0), (3, .optr 1 0 0 0)] ∧ η = [.row 0 6 1 32 (fun _ => [.str [], .nils, .nils, .nils, .bool false, .nils]), .row 0 6 1 32 (fun _ => [.str v1.fName, .own 2 0 0 v1.fParams.length, .own 3 0 0 v1.fUses.length, .own 4 0 0 v1.fSlots.length, .bool v1.fGen, .own 5 0 0 l6.length]), .row 0 2 v1.fParams.length 70 (row TParam.cells v1.fParams), .row 0 2 v1.fUses.length 70 (row TParam.cells v1.fUses), .row 0 1 v1.fSlots.length 9 (row cS v1.fSlots), .row 0 5 l6.length 46 (row TIns.cells l6)]) ?_ ?_
 refine .d ⟨rfl, ⟨rfl, _, rfl, ?_⟩⟩
 refine le (m_i_ThreadCode_L2.partial_correctness a0 (motive := fun l10 y11 o26 => o7 = o26 → LoopAt _ _ [(1, .optr 0 0 0 0), (2, .optr 1 0 0 0), (3, .optr 2 0 0 0), (14, sl 5 TIns.cells a0.fCode), (15, .int .i64 (a0.fCode.length : Int)), (16, .int .i64 y11)] [.row 0 6 1 32 (fun _ => a0.lit), .row 0 6 1 32 (fun _ => [.str [], .nils, .nils, .nils, .bool false, .nils]), .row 0 6 1 32 (fun _ => [.str v1.fName, .own 3 0 0 v1.fParams.length, .own 4 0 0 v1.fUses.length, .own 5 0 0 v1.fSlots.length, .bool v1.fGen, .own 6 0 0 l10.length]), .row 0 2 v1.fParams.length 70 (row TParam.cells v1.fParams), .row 0 2 v1.fUses.length 70 (row TParam.cells v1.fUses), .row 0 1 v1.fSlots.length 9 (row cS v1.fSlots), .row 0 5 l10.length 46 (row TIns.cells l10)]) ?_ v1.fCode 0 o7 h rfl) (tk [0, 1, 6, 2, 3, 4, 5] ⟨.p, .p, .p, .l, .i, .i, ⟨⟩⟩ ⟨(nbp rfl), (nb rfl ⟨.s, .nils, .nils, .nils, .b, .nils, ⟨⟩⟩), (nb rfl ⟨.s, .o, .o, .o, .b, .o, ⟨⟩⟩), nw, nw, nw, nw, ⟨⟩⟩)
 intro F13 ih12 l10 y11 o26 h hr27
 subst hr27
 refine LoopAt.round (.d (.d (sD h (fun hb14 h => ?_) (fun hb14 h => ?_))))
 refine .d (.d (bk h fun x15 hx16 h => ⟨idx_bd hx16, _, (idx_row hx16).trans (TIns.cells_eq x15), ⟨rfl, _, fun _ => [.int .i64 x15.fOp, .int .i64 x15.fA, .int .i64 x15.fB, .str x15.fS, .str x15.fT], rfl, one_set rfl, (.d ⟨rfl, ⟨rfl, _, rfl, (bk h fun v17 hv18 h => (pcP (ok_i_HasTarget hv18) (sV h (fun hb19 h => ?_) (fun hb19 h => ?_))))⟩⟩)⟩⟩))
 refine .d ⟨rfl, ⟨rfl, _, rfl, ⟨rfl, ⟨rfl, _, rfl, (bk h fun v20 hv21 h => (pcP (ok_i_walkFrom hv21) (.float [(0, true), (1, true), (2, true), (3, true), (4, true), (5, true), (6, true), (7, true), (8, true), (9, true), (10, true), (11, false)] (by kernel_rfl) ?_)))⟩⟩⟩⟩
 exact ⟨rfl, ⟨rfl, _, rfl, (bk h fun x22 hx23 h => ⟨idx_bd hx23, _, (idx_row hx23).trans rfl, (bk h fun x24 hx25 h => ⟨rfl, idx_bd hx25, _, Nat.zero_add _, ⟨rfl, ⟨rfl, _, row TIns.cells (l10.set y11.toNat (TIns.mk x24.fOp x22 x24.fB x24.fS x24.fT)), ((idx_row hx25).trans (TIns.cells_eq x24)), row_set (idx_lt hx25) (TIns.cells_eq (TIns.mk x24.fOp x22 x24.fB x24.fS x24.fT)) ⟨.same _, .same _, .same _, .same _, .same _, trivial⟩, (lg (ih12 _ _ _ h rfl) (tk [0, 1, 2, 3, 4, 5, 6] ⟨.p, .p, .p, .l, .i, .i, ⟨⟩⟩ ⟨(nbp rfl), (nb rfl ⟨.s, .nils, .nils, .nils, .b, .nils, ⟨⟩⟩), (nb rfl ⟨.s, .o, .o, .o, .b, (.ox ln), ⟨⟩⟩), nw, nw, nw, (nwx rfl ln), ⟨⟩⟩))⟩⟩⟩)⟩)⟩⟩
 exact lg (ih12 _ _ _ h rfl) (tk [0, 1, 2, 3, 4, 5, 6] ⟨.p, .p, .p, .l, .i, .i, ⟨⟩⟩ ⟨(nbp rfl), (nb rfl ⟨.s, .nils, .nils, .nils, .b, .nils, ⟨⟩⟩), (nb rfl ⟨.s, .o, .o, .o, .b, .o, ⟨⟩⟩), nw, nw, nw, nw, ⟨⟩⟩)
 exact ct ⟨_, si h, rfl, rfl⟩ (tk [1, 2, 3, 4, 5, 6] ⟨.p, .p, ⟨⟩⟩ ⟨(nb rfl ⟨.s, .nils, .nils, .nils, .b, .nils, ⟨⟩⟩), (nb rfl ⟨.s, .o, .o, .o, .b, .o, ⟨⟩⟩), nw, nw, nw, nw, ⟨⟩⟩)
 rintro _ _ ⟨l6, rfl, rfl, rfl⟩
 replace h := hk9
 refine .d ⟨rfl, _, rfl, ⟨rfl, _, fun _ => [.str v1.fName, .own 2 0 0 v1.fParams.length, .own 3 0 0 v1.fUses.length, .own 4 0 0 v1.fSlots.length, .bool v1.fGen, .own 5 0 0 l6.length], rfl, one_set rfl, ?_⟩⟩
 obtain rfl := si h
 exact ⟨rfl, _, rfl, (en [2, 3, 4, 5] ⟨rfl, rfl⟩ (.agg_l ⟨.s, .o, .o, .o, .b, .o, ⟨⟩⟩) ⟨nw, nw, nw, nw, ⟨⟩⟩)⟩
def m_s_DropCode_L2 (a0 : TFunc) (v3 : List Int) (l15 : List Int) (l16 : List Int) (y17 : Int) : Option ((List Int) × (List Int)) :=
 (if y17 < (v3.length : Int) then
 lapp 8 l16 ([(l15.length : Int)] : List Int) >>= fun l21 =>
 idx v3 y17 >>= fun x23 =>
 (if x23 ≥ 0 then
 idx a0.fCode y17 >>= fun x26 =>
 (if x26.fOp = 1 then
 m_s_DropCode_L2 a0 v3 l15 l21 (W64 (y17 + 1))
 else
 lapp 8 l15 ([y17] : List Int) >>= fun l29 =>
 m_s_DropCode_L2 a0 v3 l29 l21 (W64 (y17 + 1)))
 else
 m_s_DropCode_L2 a0 v3 l15 l21 (W64 (y17 + 1)))
 else
 some (l15, l16))
partial_fixpoint
def m_s_DropCode_L4 (a0 : TFunc) (l10 : List Int) (l11 : List Int) (l37 : List TIns) (y38 : Int) : Option ((List TIns)) :=
 (if y38 < (l10.length : Int) then
 idx l10 y38 >>= fun x42 =>
 idx a0.fCode x42 >>= fun x44 =>
 m_s_HasTarget x44.fOp >>= fun v46 =>
 (if v46 = true then
 idx l11 x44.fA >>= fun x49 =>
 lapp 56 l37 ([(TIns.mk x44.fOp x49 x44.fB x44.fS x44.fT)] : List TIns) >>= fun l51 =>
 m_s_DropCode_L4 a0 l10 l11 l51 (W64 (y38 + 1))
 else
 lapp 56 l37 ([x44] : List TIns) >>= fun l53 =>
 m_s_DropCode_L4 a0 l10 l11 l53 (W64 (y38 + 1)))
 else
 some l37)
partial_fixpoint
def m_s_DropCode (a0 : TFunc) : Option (TFunc × (List Int)) :=
 m_s_l30Copy a0 >>= fun v1 =>
 m_s_HeightsOf a0 >>= fun (v3, v4) =>
 (if v4 = true then
 m_s_IsFunc a0 >>= fun v7 =>
 (if v7 = true then
 (
 m_s_DropCode_L2 a0 v3 ([] : List Int) ([] : List Int) 0
 : Option ((List Int) × (List Int))) >>= fun (l10, l11) =>
 (
 m_s_DropCode_L4 a0 l10 l11 ([] : List TIns) 0
 : Option ((List TIns))) >>= fun l33 =>
 some ((TFunc.mk v1.fName v1.fParams v1.fUses v1.fSlots v1.fGen l33), l10)
 else
 some (v1, ([] : List Int)))
 else
 some (v1, ([] : List Int)))
theorem ok_s_DropCode {a0 : TFunc} {r : TFunc × (List Int)} (h : m_s_DropCode a0 = some r) : ACall Tryz.prog 46 [.agg a0.lit] [] (fun res h => res = .tup [.agg r.1.lit, sl 1 cI r.2] ∧ h = []) := by
 refine vc1 Tryz.func46 ?_
 unfold m_s_DropCode at h
 refine .d (.d ⟨rfl, _, rfl, (bk h fun v1 hv2 h => (pcF (own_s_l30Copy hv2) (.agg [.str v1.fName, .own 2 0 0 v1.fParams.length, .own 3 0 0 v1.fUses.length, .own 4 0 0 v1.fSlots.length, .bool v1.fGen, .own 5 0 0 v1.fCode.length]) [.row 0 6 1 32 (fun _ => a0.lit), .row 0 6 1 32 (fun _ => [.str [], .nils, .nils, .nils, .bool false, .nils]), .row 0 2 v1.fParams.length 70 (row TParam.cells v1.fParams), .row 0 2 v1.fUses.length 70 (row TParam.cells v1.fUses), .row 0 1 v1.fSlots.length 9 (row cS v1.fSlots), .row 0 5 v1.fCode.length 46 (row TIns.cells v1.fCode)] ⟨rfl, _, fun _ => [.str v1.fName, .own 2 0 0 v1.fParams.length, .own 3 0 0 v1.fUses.length, .own 4 0 0 v1.fSlots.length, .bool v1.fGen, .own 5 0 0 v1.fCode.length], rfl, one_set rfl, (.d ⟨row cI ([] : List Int), row_lit cI ([] : List Int) rfl (cll_refl rfl), (.d ⟨rfl, _, rfl, ?_⟩)⟩)⟩))⟩)
 obtain ⟨⟨v3, v4⟩, hv5, h⟩ := bd h
 refine pcP (ok_s_HeightsOf hv5) (.d (.d (sVn h (fun hb6 h => ?_) (fun hb6 h => ?_))))
 refine .t (.t (.t (.t (.d ⟨rfl, _, rfl, ⟨rfl, _, fun _ => [.str v1.fName, .own 2 0 0 v1.fParams.length, .own 3 0 0 v1.fUses.length, .own 4 0 0 v1.fSlots.length, .bool v1.fGen, .own 5 0 0 v1.fCode.length], rfl, one_set rfl, ?_⟩⟩))))
 obtain rfl := si h
 exact ⟨rfl, _, rfl, (en [] ⟨rfl, rfl⟩ (.tup_l ⟨.agg_l ⟨.s, .r, .r, .r, .b, .r, ⟨⟩⟩, (.rx rfl), ⟨⟩⟩) ⟨⟩)⟩
 refine ⟨rfl, _, rfl, (.f (bk h fun v7 hv8 h => (pcP (ok_s_IsFunc hv8) (.f (.f (sVn h (fun hb9 h => ?_) (fun hb9 h => ?_)))))))⟩
 refine .d ⟨rfl, _, rfl, ⟨rfl, _, fun _ => [.str v1.fName, .own 2 0 0 v1.fParams.length, .own 3 0 0 v1.fUses.length, .own 4 0 0 v1.fSlots.length, .bool v1.fGen, .own 5 0 0 v1.fCode.length], rfl, one_set rfl, ?_⟩⟩
 obtain rfl := si h
 exact ⟨rfl, _, rfl, (en [] ⟨rfl, rfl⟩ (.tup_l ⟨.agg_l ⟨.s, .r, .r, .r, .b, .r, ⟨⟩⟩, (.rx rfl), ⟨⟩⟩) ⟨⟩)⟩
 refine .d ⟨row cI ([] : List Int), row_lit cI ([] : List Int) rfl (cll_refl rfl), ?_⟩
 obtain ⟨o12, ho13, hk14⟩ := bd h
 replace h := ho13
 refine .cut (fun σ η => ∃ l10, ∃ l11, (l10, l11) = o12 ∧ σ = [(1, .optr 0 0 0 0), (2, .optr 1 0 0 0), (4, .optr 2 0 0 0), (5, .own 7 0 0 l10.length), (8, .own 8 0 0 l11.length)] ∧ η = [.row 0 6 1 32 (fun _ => a0.lit), .row 0 6 1 32 (fun _ => [.str [], .nils, .nils, .nils, .bool false, .nils]), .row 0 6 1 32 (fun _ => [.str v1.fName, .own 3 0 0 v1.fParams.length, .own 4 0 0 v1.fUses.length, .own 5 0 0 v1.fSlots.length, .bool v1.fGen, .own 6 0 0 v1.fCode.length]), .row 0 2 v1.fParams.length 70 (row TParam.cells v1.fParams), .row 0 2 v1.fUses.length 70 (row TParam.cells v1.fUses), .row 0 1 v1.fSlots.length 9 (row cS v1.fSlots), .row 0 5 v1.fCode.length 46 (row TIns.cells v1.fCode), .row 0 1 l10.length 3 (row cI l10), .row 0 1 l11.length 3 (row cI l11)]) ?_ ?_
 refine .d ?_
 refine le (m_s_DropCode_L2.partial_correctness a0 v3 (motive := fun l15 l16 y17 o31 => o12 = o31 → LoopAt _ _ [(1, .optr 0 0 0 0), (2, .optr 1 0 0 0), (4, .optr 2 0 0 0), (5, .own 7 0 0 l15.length), (6, sl 1 cI v3), (8, .own 8 0 0 l16.length), (9, .int .i64 y17)] [.row 0 6 1 32 (fun _ => a0.lit), .row 0 6 1 32 (fun _ => [.str [], .nils, .nils, .nils, .bool false, .nils]), .row 0 6 1 32 (fun _ => [.str v1.fName, .own 3 0 0 v1.fParams.length, .own 4 0 0 v1.fUses.length, .own 5 0 0 v1.fSlots.length, .bool v1.fGen, .own 6 0 0 v1.fCode.length]), .row 0 2 v1.fParams.length 70 (row TParam.cells v1.fParams), .row 0 2 v1.fUses.length 70 (row TParam.cells v1.fUses), .row 0 1 v1.fSlots.length 9 (row cS v1.fSlots), .row 0 5 v1.fCode.length 46 (row TIns.cells v1.fCode), .row 0 1 l15.length 3 (row cI l15), .row 0 1 l16.length 3 (row cI l16)]) ?_ ([] : List Int) ([] : List Int) 0 o12 h rfl) (tk [0, 1, 6, 2, 3, 4, 5, 7, 8] ⟨.p, .p, .p, .o, .l, .o, .i, ⟨⟩⟩ ⟨(nbp rfl), (nb rfl ⟨.s, .nils, .nils, .nils, .b, .nils, ⟨⟩⟩), (nb rfl ⟨.s, .o, .o, .o, .b, .o, ⟨⟩⟩), nw, nw, nw, nw, nw, nw, ⟨⟩⟩)
 intro F19 ih18 l15 l16 y17 o31 h hr32
 subst hr32
 refine LoopAt.round (.d (.d (sD h (fun hb20 h => ?_) (fun hb20 h => ?_))))
 refine .d (.d ⟨rfl, ⟨row cI ([(l15.length : Int)] : List Int), row_lit cI ([(l15.length : Int)] : List Int) rfl (cll_refl rfl), (bk h fun l21 hx22 h => ⟨rfl, rfl, lapp_bd hx22, l21.length, row cI l21, lapp_len hx22, lapp_row hx22 shows_all (src_own shows_all), (.d (bk h fun x23 hx24 h => ⟨idx_bd hx24, _, (idx_row hx24).trans rfl, (sD h (fun hb25 h => ?_) (fun hb25 h => ?_))⟩))⟩)⟩⟩)
 refine ⟨rfl, (.t ⟨rfl, _, rfl, (.t (.t (bk h fun x26 hx27 h => ⟨idx_bd hx27, _, (idx_row hx27).trans (TIns.cells_eq x26), (.t (.t (.t (.t (sN h (fun hb28 h => ?_) (fun hb28 h => ?_))))))⟩)))⟩)⟩
 exact ⟨row cI ([y17] : List Int), row_lit cI ([y17] : List Int) rfl (cll_refl rfl), (bk h fun l29 hx30 h => ⟨rfl, rfl, lapp_bd hx30, l29.length, row cI l29, lapp_len hx30, lapp_row hx30 shows_all (src_own shows_all), (lg (ih18 _ _ _ _ h rfl) (tk [0, 1, 2, 3, 4, 5, 6, 7, 8] ⟨.p, .p, .p, .o, .l, .o, .i, ⟨⟩⟩ ⟨(nbp rfl), (nb rfl ⟨.s, .nils, .nils, .nils, .b, .nils, ⟨⟩⟩), (nb rfl ⟨.s, .o, .o, .o, .b, .o, ⟨⟩⟩), nw, nw, nw, nw, nw, nw, ⟨⟩⟩))⟩)⟩
 exact lg (ih18 _ _ _ _ h rfl) (tk [0, 1, 2, 3, 4, 5, 6, 7, 8] ⟨.p, .p, .p, .o, .l, .o, .i, ⟨⟩⟩ ⟨(nbp rfl), (nb rfl ⟨.s, .nils, .nils, .nils, .b, .nils, ⟨⟩⟩), (nb rfl ⟨.s, .o, .o, .o, .b, .o, ⟨⟩⟩), nw, nw, nw, nw, nw, nw, ⟨⟩⟩)
 exact .f (.f (.f (.f (.f (.f (.f (.f (lg (ih18 _ _ _ _ h rfl) (tk [0, 1, 2, 3, 4, 5, 6, 7, 8] ⟨.p, .p, .p, .o, .l, .o, .i, ⟨⟩⟩ ⟨(nbp rfl), (nb rfl ⟨.s, .nils, .nils, .nils, .b, .nils, ⟨⟩⟩), (nb rfl ⟨.s, .o, .o, .o, .b, .o, ⟨⟩⟩), nw, nw, nw, nw, nw, nw, ⟨⟩⟩)))))))))
 exact ct ⟨_, _, si h, rfl, rfl⟩ (tk [0, 1, 2, 3, 4, 5, 6, 7, 8] ⟨.p, .p, .p, .o, .o, ⟨⟩⟩ ⟨(nbp rfl), (nb rfl ⟨.s, .nils, .nils, .nils, .b, .nils, ⟨⟩⟩), (nb rfl ⟨.s, .o, .o, .o, .b, .o, ⟨⟩⟩), nw, nw, nw, nw, nw, nw, ⟨⟩⟩)
 rintro _ _ ⟨l10, l11, rfl, rfl, rfl⟩
 replace h := hk14
 refine .d ⟨row TIns.cells ([] : List TIns), row_lit TIns.cells ([] : List TIns) rfl (cll_refl rfl), ⟨rfl, ⟨rfl, _, fun _ => [.str v1.fName, .own 3 0 0 v1.fParams.length, .own 4 0 0 v1.fUses.length, .own 5 0 0 v1.fSlots.length, .bool v1.fGen, .own 9 0 0 ([] : List TIns).length], rfl, one_set rfl, ?_⟩⟩⟩
 obtain ⟨o34, ho35, hk36⟩ := bd h
 replace h := ho35
 refine .cut (fun σ η => ∃ l33, l33 = o34 ∧ σ = [(2, .optr 0 0 0 0), (4, .optr 1 0 0 0), (5, .own 6 0 0 l10.length)] ∧ η = [.row 0 6 1 32 (fun _ => [.str [], .nils, .nils, .nils, .bool false, .nils]), .row 0 6 1 32 (fun _ => [.str v1.fName, .own 2 0 0 v1.fParams.length, .own 3 0 0 v1.fUses.length, .own 4 0 0 v1.fSlots.length, .bool v1.fGen, .own 5 0 0 l33.length]), .row 0 2 v1.fParams.length 70 (row TParam.cells v1.fParams), .row 0 2 v1.fUses.length 70 (row TParam.cells v1.fUses), .row 0 1 v1.fSlots.length 9 (row cS v1.fSlots), .row 0 5 l33.length 46 (row TIns.cells l33), .row 0 1 l10.length 3 (row cI l10)]) ?_ ?_
 refine .d ?_
 refine le (m_s_DropCode_L4.partial_correctness a0 l10 l11 (motive := fun l37 y38 o55 => o34 = o55 → LoopAt _ _ [(1, .optr 0 0 0 0), (2, .optr 1 0 0 0), (4, .optr 2 0 0 0), (5, .own 7 0 0 l10.length), (8, .own 8 0 0 l11.length), (10, .int .i64 y38)] [.row 0 6 1 32 (fun _ => a0.lit), .row 0 6 1 32 (fun _ => [.str [], .nils, .nils, .nils, .bool false, .nils]), .row 0 6 1 32 (fun _ => [.str v1.fName, .own 3 0 0 v1.fParams.length, .own 4 0 0 v1.fUses.length, .own 5 0 0 v1.fSlots.length, .bool v1.fGen, .own 6 0 0 l37.length]), .row 0 2 v1.fParams.length 70 (row TParam.cells v1.fParams), .row 0 2 v1.fUses.length 70 (row TParam.cells v1.fUses), .row 0 1 v1.fSlots.length 9 (row cS v1.fSlots), .row 0 5 l37.length 46 (row TIns.cells l37), .row 0 1 l10.length 3 (row cI l10), .row 0 1 l11.length 3 (row cI l11)]) ?_ ([] : List TIns) 0 o34 h rfl) (tk [0, 1, 2, 3, 4, 5, 9, 7, 8] ⟨.p, .p, .p, .o, .o, .i, ⟨⟩⟩ ⟨(nbp rfl), (nb rfl ⟨.s, .nils, .nils, .nils, .b, .nils, ⟨⟩⟩), (nb rfl ⟨.s, .o, .o, .o, .b, .o, ⟨⟩⟩), nw, nw, nw, nw, nw, nw, ⟨⟩⟩)
 intro F40 ih39 l37 y38 o55 h hr56
 subst hr56
 refine LoopAt.round (.d (.d ⟨rfl, (sD h (fun hb41 h => ?_) (fun hb41 h => ?_))⟩))
 refine .d (.d (.float [(0, true), (1, true), (2, true), (3, true), (4, true), (5, true), (6, true), (7, true), (8, false), (9, false)] (by kernel_rfl) ?_))
 refine ⟨rfl, ⟨rfl, _, rfl, (bk h fun x42 hx43 h => ⟨rfl, idx_bd hx43, _, Nat.zero_add _, ⟨rfl, _, ((idx_row hx43).trans rfl), (bk h fun x44 hx45 h => ⟨idx_bd hx45, _, (idx_row hx45).trans (TIns.cells_eq x44), ⟨rfl, ⟨rfl, ⟨rfl, ⟨rfl, ⟨rfl, _, fun _ => [.int .i64 x44.fOp, .int .i64 x44.fA, .int .i64 x44.fB, .str x44.fS, .str x44.fT], rfl, one_set rfl, (.d (.d ⟨rfl, ?_⟩))⟩⟩⟩⟩⟩⟩)⟩⟩)⟩⟩
 refine ⟨rfl, _, rfl, (bk h fun v46 hv47 h => (pcP (ok_s_HasTarget hv47) (sV h (fun hb48 h => ?_) (fun hb48 h => ?_))))⟩
 refine ⟨rfl, ⟨rfl, _, rfl, (bk h fun x49 hx50 h => ⟨rfl, idx_bd hx50, _, Nat.zero_add _, ⟨rfl, _, ((idx_row hx50).trans rfl), ⟨rfl, ⟨rfl, _, fun _ => [.int .i64 x44.fOp, .int .i64 x49, .int .i64 x44.fB, .str x44.fS, .str x44.fT], rfl, one_set rfl, ⟨rfl, ⟨rfl, _, rfl, ⟨rfl, _, rfl, ⟨row TIns.cells ([(TIns.mk x44.fOp x49 x44.fB x44.fS x44.fT)] : List TIns), row_lit TIns.cells ([(TIns.mk x44.fOp x49 x44.fB x44.fS x44.fT)] : List TIns) rfl (cll_refl rfl), (bk h fun l51 hx52 h => ⟨rfl, rfl, lapp_bd hx52, l51.length, row TIns.cells l51, lapp_len hx52, lapp_row hx52 shows_all (src_own shows_all), ⟨rfl, ⟨rfl, _, fun _ => [.str v1.fName, .own 3 0 0 v1.fParams.length, .own 4 0 0 v1.fUses.length, .own 5 0 0 v1.fSlots.length, .bool v1.fGen, .own 6 (0 + 1) 0 l51.length], rfl, one_set rfl, ?_⟩⟩⟩)⟩⟩⟩⟩⟩⟩⟩⟩)⟩⟩
 exact lg (ih39 _ _ _ h rfl) (tk [0, 1, 2, 3, 4, 5, 6, 7, 8] ⟨.p, .p, .p, .o, .o, .i, ⟨⟩⟩ ⟨(nbp rfl), (nb rfl ⟨.s, .nils, .nils, .nils, .b, .nils, ⟨⟩⟩), (nb rfl ⟨.s, .o, .o, .o, .b, .o, ⟨⟩⟩), nw, nw, nw, nw, nw, nw, ⟨⟩⟩)
 exact ⟨rfl, ⟨rfl, _, rfl, ⟨rfl, _, rfl, ⟨row TIns.cells ([x44] : List TIns), row_lit TIns.cells ([x44] : List TIns) rfl (cll_refl rfl), (bk h fun l53 hx54 h => ⟨rfl, rfl, lapp_bd hx54, l53.length, row TIns.cells l53, lapp_len hx54, lapp_row hx54 shows_all (src_own shows_all), ⟨rfl, ⟨rfl, _, fun _ => [.str v1.fName, .own 3 0 0 v1.fParams.length, .own 4 0 0 v1.fUses.length, .own 5 0 0 v1.fSlots.length, .bool v1.fGen, .own 6 (0 + 1) 0 l53.length], rfl, one_set rfl, (lg (ih39 _ _ _ h rfl) (tk [0, 1, 2, 3, 4, 5, 6, 7, 8] ⟨.p, .p, .p, .o, .o, .i, ⟨⟩⟩ ⟨(nbp rfl), (nb rfl ⟨.s, .nils, .nils, .nils, .b, .nils, ⟨⟩⟩), (nb rfl ⟨.s, .o, .o, .o, .b, .o, ⟨⟩⟩), nw, nw, nw, nw, nw, nw, ⟨⟩⟩))⟩⟩⟩)⟩⟩⟩⟩
 exact ct ⟨_, si h, rfl, rfl⟩ (tk [1, 2, 3, 4, 5, 6, 7] ⟨.p, .p, .o, ⟨⟩⟩ ⟨(nb rfl ⟨.s, .nils, .nils, .nils, .b, .nils, ⟨⟩⟩), (nb rfl ⟨.s, .o, .o, .o, .b, .o, ⟨⟩⟩), nw, nw, nw, nw, nw, ⟨⟩⟩)
 rintro _ _ ⟨l33, rfl, rfl, rfl⟩
 replace h := hk36
 refine .d ⟨rfl, _, rfl, ⟨rfl, _, fun _ => [.str v1.fName, .own 2 0 0 v1.fParams.length, .own 3 0 0 v1.fUses.length, .own 4 0 0 v1.fSlots.length, .bool v1.fGen, .own 5 0 0 l33.length], rfl, one_set rfl, ?_⟩⟩
 obtain rfl := si h
 exact ⟨rfl, _, rfl, (en [] ⟨rfl, rfl⟩ (.tup_l ⟨.agg_l ⟨.s, .r, .r, .r, .b, .r, ⟨⟩⟩, .r, ⟨⟩⟩) ⟨⟩)⟩
def m_i_DropCode_L2 (a0 : TFunc) (v6 : List Int) (l13 : List Int) (y14 : Int) : Option ((List Int)) :=
 (if y14 < (a0.fCode.length : Int) then
 idx a0.fCode y14 >>= fun x18 =>
 idx v6 y14 >>= fun x20 =>
 (if x20 ≥ 0 then
 (if x18.fOp = 1 then
 m_i_DropCode_L2 a0 v6 l13 (W64 (y14 + 1))
 else
 lapp 8 l13 ([y14] : List Int) >>= fun l24 =>
 m_i_DropCode_L2 a0 v6 l24 (W64 (y14 + 1)))
 else
 m_i_DropCode_L2 a0 v6 l13 (W64 (y14 + 1)))
 else
 some l13)
partial_fixpoint
def m_i_DropCode_L4 (a0 : TFunc) (l9 : List Int) (l34 : List TIns) (y35 : Int) : Option ((List TIns)) :=
 (if y35 < (l9.length : Int) then
 idx l9 y35 >>= fun x39 =>
 idx a0.fCode x39 >>= fun x41 =>
 m_i_moved x41 l9 >>= fun v43 =>
 lapp 56 l34 ([v43] : List TIns) >>= fun l45 =>
 m_i_DropCode_L4 a0 l9 l45 (W64 (y35 + 1))
 else
 some l34)
partial_fixpoint
def m_i_DropCode (a0 : TFunc) : Option (TFunc × (List Int)) :=
 m_i_IsFunc a0 >>= fun v1 =>
 (if v1 = true then
 m_i_HeightsOf a0 >>= fun (v6, v7) =>
 (
 m_i_DropCode_L2 a0 v6 ([] : List Int) 0
 : Option ((List Int))) >>= fun l9 =>
 m_i_copyFunc a0 >>= fun v28 =>
 (
 m_i_DropCode_L4 a0 l9 ([] : List TIns) 0
 : Option ((List TIns))) >>= fun l30 =>
 some ((TFunc.mk v28.fName v28.fParams v28.fUses v28.fSlots v28.fGen l30), l9)
 else
 m_i_copyFunc a0 >>= fun v4 =>
 some (v4, []))
theorem ok_i_DropCode {a0 : TFunc} {r : TFunc × (List Int)} (h : m_i_DropCode a0 = some r) : ACall Tryz.prog 47 [.agg a0.lit] [] (fun res h => res = .tup [.agg [.str r.1.fName, .own 0 0 0 r.1.fParams.length, .own 1 0 0 r.1.fUses.length, .own 2 0 0 r.1.fSlots.length, .bool r.1.fGen, .own 3 0 0 r.1.fCode.length], .own 4 0 0 r.2.length] ∧ h = [.row 0 2 r.1.fParams.length 70 (row TParam.cells r.1.fParams), .row 0 2 r.1.fUses.length 70 (row TParam.cells r.1.fUses), .row 0 1 r.1.fSlots.length 9 (row cS r.1.fSlots), .row 0 5 r.1.fCode.length 46 (row TIns.cells r.1.fCode), .row 0 1 r.2.length 3 (row cI r.2)]) := by
 refine vc1 Tryz.func47 ?_
 unfold m_i_DropCode at h
 refine .d (.d (.d ⟨rfl, _, rfl, (bk h fun v1 hv2 h => (pcP (ok_i_IsFunc hv2) (sVn h (fun hb3 h => ?_) (fun hb3 h => ?_))))⟩))
 refine .d ⟨rfl, _, rfl, (bk h fun v4 hv5 h => (pcF (own_i_copyFunc hv5) (.agg [.str v4.fName, .own 2 0 0 v4.fParams.length, .own 3 0 0 v4.fUses.length, .own 4 0 0 v4.fSlots.length, .bool v4.fGen, .own 5 0 0 v4.fCode.length]) [.row 0 6 1 32 (fun _ => a0.lit), .row 0 6 1 32 (fun _ => [.str [], .nils, .nils, .nils, .bool false, .nils]), .row 0 2 v4.fParams.length 70 (row TParam.cells v4.fParams), .row 0 2 v4.fUses.length 70 (row TParam.cells v4.fUses), .row 0 1 v4.fSlots.length 9 (row cS v4.fSlots), .row 0 5 v4.fCode.length 46 (row TIns.cells v4.fCode)] ⟨rfl, _, fun _ => [.str v4.fName, .own 2 0 0 v4.fParams.length, .own 3 0 0 v4.fUses.length, .own 4 0 0 v4.fSlots.length, .bool v4.fGen, .own 5 0 0 v4.fCode.length], rfl, one_set rfl, ?_⟩))⟩
 obtain rfl := si h
 exact ⟨rfl, _, rfl, (en [2, 3, 4, 5, 10] ⟨rfl, rfl⟩ (.tup_l ⟨.agg_l ⟨.s, .o, .o, .o, .b, .o, ⟨⟩⟩, .g, ⟨⟩⟩) ⟨nw, nw, nw, nw, gh, ⟨⟩⟩)⟩
 refine .d ⟨rfl, _, rfl, ?_⟩
 obtain ⟨⟨v6, v7⟩, hv8, h⟩ := bd h
 refine pcP (ok_i_HeightsOf hv8) (.d ⟨row cI ([] : List Int), row_lit cI ([] : List Int) rfl (cll_refl rfl), ?_⟩)
 obtain ⟨o10, ho11, hk12⟩ := bd h
 replace h := ho11
 refine .cut (fun σ η => ∃ l9, l9 = o10 ∧ σ = [(1, .optr 0 0 0 0), (2, .optr 1 0 0 0), (6, .own 2 0 0 l9.length)] ∧ η = [.row 0 6 1 32 (fun _ => a0.lit), .row 0 6 1 32 (fun _ => [.str [], .nils, .nils, .nils, .bool false, .nils]), .row 0 1 l9.length 3 (row cI l9)]) ?_ ?_
 refine .d ⟨rfl, ⟨rfl, _, rfl, ?_⟩⟩
 refine le (m_i_DropCode_L2.partial_correctness a0 v6 (motive := fun l13 y14 o26 => o10 = o26 → LoopAt _ _ [(1, .optr 0 0 0 0), (2, .optr 1 0 0 0), (4, sl 1 cI v6), (6, .own 2 0 0 l13.length), (24, sl 5 TIns.cells a0.fCode), (25, .int .i64 (a0.fCode.length : Int)), (26, .int .i64 y14)] [.row 0 6 1 32 (fun _ => a0.lit), .row 0 6 1 32 (fun _ => [.str [], .nils, .nils, .nils, .bool false, .nils]), .row 0 1 l13.length 3 (row cI l13)]) ?_ ([] : List Int) 0 o10 h rfl) (tk [0, 1, 2] ⟨.p, .p, .l, .o, .l, .i, .i, ⟨⟩⟩ ⟨(nbp rfl), (nb rfl ⟨.s, .nils, .nils, .nils, .b, .nils, ⟨⟩⟩), nw, ⟨⟩⟩)
 intro F16 ih15 l13 y14 o26 h hr27
 subst hr27
 refine LoopAt.round (.d (.d (sD h (fun hb17 h => ?_) (fun hb17 h => ?_))))
 refine .d (.d (bk h fun x18 hx19 h => ⟨idx_bd hx19, _, (idx_row hx19).trans (TIns.cells_eq x18), ⟨rfl, _, fun _ => [.int .i64 x18.fOp, .int .i64 x18.fA, .int .i64 x18.fB, .str x18.fS, .str x18.fT], rfl, one_set rfl, (.d (bk h fun x20 hx21 h => ⟨idx_bd hx21, _, (idx_row hx21).trans rfl, (sD h (fun hb22 h => ?_) (fun hb22 h => ?_))⟩))⟩⟩))
 refine ⟨rfl, (.t ⟨rfl, _, rfl, (.t (.t (sN h (fun hb23 h => ?_) (fun hb23 h => ?_))))⟩)⟩
 exact ⟨row cI ([y14] : List Int), row_lit cI ([y14] : List Int) rfl (cll_refl rfl), (bk h fun l24 hx25 h => ⟨rfl, rfl, lapp_bd hx25, l24.length, row cI l24, lapp_len hx25, lapp_row hx25 shows_all (src_own shows_all), (lg (ih15 _ _ _ h rfl) (tk [0, 1, 2] ⟨.p, .p, .l, .o, .l, .i, .i, ⟨⟩⟩ ⟨(nbp rfl), (nb rfl ⟨.s, .nils, .nils, .nils, .b, .nils, ⟨⟩⟩), nw, ⟨⟩⟩))⟩)⟩
 exact lg (ih15 _ _ _ h rfl) (tk [0, 1, 2] ⟨.p, .p, .l, .o, .l, .i, .i, ⟨⟩⟩ ⟨(nbp rfl), (nb rfl ⟨.s, .nils, .nils, .nils, .b, .nils, ⟨⟩⟩), nw, ⟨⟩⟩)
 exact .f (.f (.f (.f (lg (ih15 _ _ _ h rfl) (tk [0, 1, 2] ⟨.p, .p, .l, .o, .l, .i, .i, ⟨⟩⟩ ⟨(nbp rfl), (nb rfl ⟨.s, .nils, .nils, .nils, .b, .nils, ⟨⟩⟩), nw, ⟨⟩⟩)))))
 exact ct ⟨_, si h, rfl, rfl⟩ (tk [0, 1, 2] ⟨.p, .p, .o, ⟨⟩⟩ ⟨(nbp rfl), (nb rfl ⟨.s, .nils, .nils, .nils, .b, .nils, ⟨⟩⟩), nw, ⟨⟩⟩)
 rintro _ _ ⟨l9, rfl, rfl, rfl⟩
 replace h := hk12
 refine .d ⟨rfl, _, rfl, (bk h fun v28 hv29 h => (pcF (own_i_copyFunc hv29) (.agg [.str v28.fName, .own 3 0 0 v28.fParams.length, .own 4 0 0 v28.fUses.length, .own 5 0 0 v28.fSlots.length, .bool v28.fGen, .own 6 0 0 v28.fCode.length]) [.row 0 6 1 32 (fun _ => a0.lit), .row 0 6 1 32 (fun _ => [.str [], .nils, .nils, .nils, .bool false, .nils]), .row 0 1 l9.length 3 (row cI l9), .row 0 2 v28.fParams.length 70 (row TParam.cells v28.fParams), .row 0 2 v28.fUses.length 70 (row TParam.cells v28.fUses), .row 0 1 v28.fSlots.length 9 (row cS v28.fSlots), .row 0 5 v28.fCode.length 46 (row TIns.cells v28.fCode)] ⟨rfl, _, fun _ => [.str v28.fName, .own 3 0 0 v28.fParams.length, .own 4 0 0 v28.fUses.length, .own 5 0 0 v28.fSlots.length, .bool v28.fGen, .own 6 0 0 v28.fCode.length], rfl, one_set rfl, (.d ⟨rfl, ⟨rfl, _, fun _ => [.str v28.fName, .own 3 0 0 v28.fParams.length, .own 4 0 0 v28.fUses.length, .own 5 0 0 v28.fSlots.length, .bool v28.fGen, .nils], rfl, one_set rfl, ?_⟩⟩)⟩))⟩
 obtain ⟨o31, ho32, hk33⟩ := bd h
 replace h := ho32
 refine .cut (fun σ η => ∃ l30, l30 = o31 ∧ σ = [(2, .optr 0 0 0 0), (6, .own 1 0 0 l9.length), (9, .optr 2 0 0 0)] ∧ η = [.row 0 6 1 32 (fun _ => [.str [], .nils, .nils, .nils, .bool false, .nils]), .row 0 1 l9.length 3 (row cI l9), .row 0 6 1 32 (fun _ => [.str v28.fName, .own 3 0 0 v28.fParams.length, .own 4 0 0 v28.fUses.length, .own 5 0 0 v28.fSlots.length, .bool v28.fGen, .own 6 0 0 l30.length]), .row 0 2 v28.fParams.length 70 (row TParam.cells v28.fParams), .row 0 2 v28.fUses.length 70 (row TParam.cells v28.fUses), .row 0 1 v28.fSlots.length 9 (row cS v28.fSlots), .row 0 5 l30.length 46 (row TIns.cells l30)]) ?_ ?_
 refine .d ⟨rfl, ?_⟩
 refine le (m_i_DropCode_L4.partial_correctness a0 l9 (motive := fun l34 y35 o47 => o31 = o47 → LoopAt _ _ [(1, .optr 0 0 0 0), (2, .optr 1 0 0 0), (6, .own 2 0 0 l9.length), (9, .optr 3 0 0 0), (49, .own 2 0 0 l9.length), (50, .int .i64 (l9.length : Int)), (51, .int .i64 y35)] [.row 0 6 1 32 (fun _ => a0.lit), .row 0 6 1 32 (fun _ => [.str [], .nils, .nils, .nils, .bool false, .nils]), .row 0 1 l9.length 3 (row cI l9), .row 0 6 1 32 (fun _ => [.str v28.fName, .own 4 0 0 v28.fParams.length, .own 5 0 0 v28.fUses.length, .own 6 0 0 v28.fSlots.length, .bool v28.fGen, .own 7 0 0 l34.length]), .row 0 2 v28.fParams.length 70 (row TParam.cells v28.fParams), .row 0 2 v28.fUses.length 70 (row TParam.cells v28.fUses), .row 0 1 v28.fSlots.length 9 (row cS v28.fSlots), .row 0 5 l34.length 46 (row TIns.cells l34)]) ?_ ([] : List TIns) 0 o31 h rfl) (tk [0, 1, 2, 7, 3, 4, 5, 15] ⟨.p, .p, .o, .p, .o, .i, .i, ⟨⟩⟩ ⟨(nbp rfl), (nb rfl ⟨.s, .nils, .nils, .nils, .b, .nils, ⟨⟩⟩), nw, (nb rfl ⟨.s, .o, .o, .o, .b, .g, ⟨⟩⟩), nw, nw, nw, gh, ⟨⟩⟩)
 intro F37 ih36 l34 y35 o47 h hr48
 subst hr48
 refine LoopAt.round (.d (.d (sD h (fun hb38 h => ?_) (fun hb38 h => ?_))))
 refine .d (.d (bk h fun x39 hx40 h => ⟨rfl, idx_bd hx40, _, Nat.zero_add _, ⟨rfl, _, ((idx_row hx40).trans rfl), (.float [(0, true), (1, true), (2, true), (3, true), (4, true), (5, true), (6, true), (7, true), (8, false), (9, false), (10, false), (11, true), (12, false)] (by kernel_rfl) ?_)⟩⟩))
 refine ⟨rfl, ⟨rfl, _, rfl, ⟨rfl, ⟨rfl, _, rfl, (bk h fun x41 hx42 h => ⟨idx_bd hx42, _, (idx_row hx42).trans (TIns.cells_eq x41), (bk h fun v43 hv44 h => (pcS (ok_i_moved hv44) ⟨.agg_l ⟨.i, .i, .i, .s, .s, ⟨⟩⟩, .r, ⟨⟩⟩ ⟨rfl, ⟨rfl, ⟨row TIns.cells ([v43] : List TIns), row_lit TIns.cells ([v43] : List TIns) rfl (cll_refl rfl), ⟨rfl, ⟨rfl, (bk h fun l45 hx46 h => ⟨rfl, rfl, lapp_bd hx46, l45.length, row TIns.cells l45, lapp_len hx46, lapp_row hx46 shows_all (src_own shows_all), ?_⟩)⟩⟩⟩⟩⟩))⟩)⟩⟩⟩⟩
 exact ⟨rfl, ⟨rfl, _, fun _ => [.str v28.fName, .own 4 0 0 v28.fParams.length, .own 5 0 0 v28.fUses.length, .own 6 0 0 v28.fSlots.length, .bool v28.fGen, .own 7 (0 + 1) 0 l45.length], rfl, one_set rfl, (lg (ih36 _ _ _ h rfl) (tk [0, 1, 2, 3, 4, 5, 6, 7] ⟨.p, .p, .o, .p, .o, .i, .i, ⟨⟩⟩ ⟨(nbp rfl), (nb rfl ⟨.s, .nils, .nils, .nils, .b, .nils, ⟨⟩⟩), nw, (nb rfl ⟨.s, .o, .o, .o, .b, .o, ⟨⟩⟩), nw, nw, nw, nw, ⟨⟩⟩))⟩⟩
 exact ct ⟨_, si h, rfl, rfl⟩ (tk [1, 2, 3, 4, 5, 6, 7] ⟨.p, .o, .p, ⟨⟩⟩ ⟨(nb rfl ⟨.s, .nils, .nils, .nils, .b, .nils, ⟨⟩⟩), nw, (nb rfl ⟨.s, .o, .o, .o, .b, .o, ⟨⟩⟩), nw, nw, nw, nw, ⟨⟩⟩)
 rintro _ _ ⟨l30, rfl, rfl, rfl⟩
 replace h := hk33
 refine .d ⟨rfl, _, rfl, ⟨rfl, _, fun _ => [.str v28.fName, .own 3 0 0 v28.fParams.length, .own 4 0 0 v28.fUses.length, .own 5 0 0 v28.fSlots.length, .bool v28.fGen, .own 6 0 0 l30.length], rfl, one_set rfl, ?_⟩⟩
 obtain rfl := si h
 exact ⟨rfl, _, rfl, (en [3, 4, 5, 6, 1] ⟨rfl, rfl⟩ (.tup_l ⟨.agg_l ⟨.s, .o, .o, .o, .b, .o, ⟨⟩⟩, .o, ⟨⟩⟩) ⟨nw, nw, nw, nw, nw, ⟨⟩⟩)⟩
end Go.Am
