/- Models of Go functions, and their walks. (Printed by tools/mg.py.) -/
import Derived.Test.YtnehfdofoemnfaaA5
set_option linter.unusedVariables false
set_option linter.unusedSimpArgs false
set_option maxRecDepth 100000
namespace Go.Am
open Go Go.RowKit Go.Proofs
def m_s_l31Walk_L2 (a0 : List TIns) (a2 : Int) (y5 : Int) (y6 : Int) : Option ((Int) ⊕ (Int × Bool)) :=
 (if y6 ≤ (a0.length : Int) then
 (if y5 = a2 then
 some (.inr (y5, true))
 else
 (if y6 = (a0.length : Int) then
 m_s_l31Walk_L2 a0 a2 y5 (W64 (y6 + 1))
 else
 idx a0 y5 >>= fun x12 =>
 (if x12.fOp = 27 then
 idx a0 y5 >>= fun x15 =>
 m_s_l31Walk_L2 a0 a2 x15.fA (W64 (y6 + 1))
 else
 idx a0 y5 >>= fun x17 =>
 (if x17.fOp = 1 then
 (if (W64 (y5 + 1)) < (a0.length : Int) then
 m_s_l31Walk_L2 a0 a2 (W64 (y5 + 1)) (W64 (y6 + 1))
 else
 some (.inr (y5, false)))
 else
 some (.inr (y5, false))))))
 else
 some (.inl y5))
partial_fixpoint
def m_s_l31Walk (a0 : List TIns) (a1 : Int) (a2 : Int) : Option (Int × Bool) :=
 ((
 m_s_l31Walk_L2 a0 a2 a1 0
 : Option ((Int) ⊕ (Int × Bool))) >>= fun o2 => match o2 with
 | .inr r => some r
 | .inl y1 =>
 some (y1, false)
 )
theorem ok_s_l31Walk {a0 : List TIns} {a1 : Int} {a2 : Int} {r : Int × Bool} (h : m_s_l31Walk a0 a1 a2 = some r) : ACall Try.prog 42 [sl 5 TIns.cells a0, .int .i64 a1, .int .i64 a2] [] (fun res h => res = .tup [.int .i64 r.1, .bool r.2] ∧ h = []) := by
 refine vc1 Try.func42 ?_
 unfold m_s_l31Walk at h
 refine .d (.d ?_)
 obtain ⟨o2, ho3, hk4⟩ := bd h
 replace h := ho3
 refine .cut (fun σ η => ∃ y1, .inl y1 = o2 ∧ σ = [(8, .int .i64 y1)] ∧ η = []) ?_ ?_
 refine .d ?_
 refine le (m_s_l31Walk_L2.partial_correctness a0 a2 (motive := fun y5 y6 o21 => o2 = o21 → LoopAt _ _ [(0, sl 5 TIns.cells a0), (2, .int .i64 a2), (8, .int .i64 y5), (9, .int .i64 y6)] []) ?_ a1 0 o2 h rfl) (tk [] ⟨.l, .i, .i, .i, ⟨⟩⟩ ⟨⟩)
 intro F8 ih7 y5 y6 o21 h hr22
 subst hr22
 refine LoopAt.round (.d (.d (sD h (fun hb9 h => ?_) (fun hb9 h => ?_))))
 refine .d (.d (.d (sE h (fun hb10 h => ?_) (fun hb10 h => ?_))))
 refine .d ?_
 obtain rfl := si h
 replace h := hk4
 obtain rfl := si h
 exact en [] ⟨rfl, rfl⟩ (.tup_l ⟨.i, .b, ⟨⟩⟩) ⟨⟩
 refine .d (sE h (fun hb11 h => ?_) (fun hb11 h => ?_))
 exact lg (ih7 _ _ _ h rfl) (tk [] ⟨.l, .i, .i, .i, ⟨⟩⟩ ⟨⟩)
 refine .d (bk h fun x12 hx13 h => ⟨idx_bd hx13, _, (idx_row hx13).trans (TIns.cells_eq x12), (sE h (fun hb14 h => ?_) (fun hb14 h => ?_))⟩)
 exact bk h fun x15 hx16 h => ⟨idx_bd hx16, _, (idx_row hx16).trans (TIns.cells_eq x15), (lg (ih7 _ _ _ h rfl) (tk [] ⟨.l, .i, .i, .i, ⟨⟩⟩ ⟨⟩))⟩
 refine .d (bk h fun x17 hx18 h => ⟨idx_bd hx18, _, (idx_row hx18).trans (TIns.cells_eq x17), (sE h (fun hb19 h => ?_) (fun hb19 h => ?_))⟩)
 refine .t (.t (.t (.t (.t (sD h (fun hb20 h => ?_) (fun hb20 h => ?_))))))
 exact lg (ih7 _ _ _ h rfl) (tk [] ⟨.l, .i, .i, .i, ⟨⟩⟩ ⟨⟩)
 refine .d ?_
 obtain rfl := si h
 replace h := hk4
 obtain rfl := si h
 exact en [] ⟨rfl, rfl⟩ (.tup_l ⟨.i, .b, ⟨⟩⟩) ⟨⟩
 refine .f (.f (.f (.f (.f (.f (.d ?_))))))
 obtain rfl := si h
 replace h := hk4
 obtain rfl := si h
 exact en [] ⟨rfl, rfl⟩ (.tup_l ⟨.i, .b, ⟨⟩⟩) ⟨⟩
 exact ct ⟨_, si h, rfl, rfl⟩ (tk [] ⟨.i, ⟨⟩⟩ ⟨⟩)
 rintro _ _ ⟨y1, rfl, rfl, rfl⟩
 replace h := hk4
 refine .d ?_
 obtain rfl := si h
 exact en [] ⟨rfl, rfl⟩ (.tup_l ⟨.i, .b, ⟨⟩⟩) ⟨⟩
def m_i_walkFrom_L2 (a0 : List TIns) (y5 : Int) (l6 : List Int) (y7 : Int) : Option (((List Int)) ⊕ (List Int)) :=
 (if y7 < (a0.length : Int) then
 idx a0 y5 >>= fun x11 =>
 (if x11.fOp = 27 then
 idx a0 y5 >>= fun x14 =>
 lapp 8 l6 ([x14.fA] : List Int) >>= fun l16 =>
 m_i_walkFrom_L2 a0 x14.fA l16 (W64 (y7 + 1))
 else
 idx a0 y5 >>= fun x18 =>
 (if x18.fOp = 1 then
 (if (W64 (y5 + 1)) < (a0.length : Int) then
 lapp 8 l6 ([W64 (y5 + 1)] : List Int) >>= fun l22 =>
 m_i_walkFrom_L2 a0 (W64 (y5 + 1)) l22 (W64 (y7 + 1))
 else
 some (.inr l6))
 else
 some (.inr l6)))
 else
 some (.inl l6))
partial_fixpoint
def m_i_walkFrom (a0 : List TIns) (a1 : Int) : Option ((List Int)) :=
 ((
 m_i_walkFrom_L2 a0 a1 ([a1] : List Int) 0
 : Option (((List Int)) ⊕ (List Int))) >>= fun o2 => match o2 with
 | .inr r => some r
 | .inl l1 =>
 some l1
 )
theorem ok_i_walkFrom {a0 : List TIns} {a1 : Int} {r : (List Int)} (h : m_i_walkFrom a0 a1 = some r) : ACall Try.prog 45 [sl 5 TIns.cells a0, .int .i64 a1] [] (fun res h => res = sl 1 cI r ∧ h = []) := by
 refine vc1 Try.func45 ?_
 unfold m_i_walkFrom at h
 refine .d (.d ⟨row cI ([a1] : List Int), row_lit cI ([a1] : List Int) rfl (cll_refl rfl), ?_⟩)
 obtain ⟨o2, ho3, hk4⟩ := bd h
 replace h := ho3
 refine .cut (fun σ η => ∃ l1, .inl l1 = o2 ∧ σ = [(5, .own 0 0 0 l1.length)] ∧ η = [.row 0 1 l1.length 3 (row cI l1)]) ?_ ?_
 refine .d ?_
 refine le (m_i_walkFrom_L2.partial_correctness a0 (motive := fun y5 l6 y7 o24 => o2 = o24 → LoopAt _ _ [(0, sl 5 TIns.cells a0), (1, .int .i64 y5), (5, .own 0 0 0 l6.length), (9, .int .i64 (a0.length : Int)), (10, .int .i64 y7)] [.row 0 1 l6.length 3 (row cI l6)]) ?_ a1 ([a1] : List Int) 0 o2 h rfl) (tk [0] ⟨.l, .i, .o, .i, .i, ⟨⟩⟩ ⟨nw, ⟨⟩⟩)
 intro F9 ih8 y5 l6 y7 o24 h hr25
 subst hr25
 refine LoopAt.round (.d (.d (sD h (fun hb10 h => ?_) (fun hb10 h => ?_))))
 refine .d (.d (.d (bk h fun x11 hx12 h => ⟨idx_bd hx12, _, (idx_row hx12).trans (TIns.cells_eq x11), (sE h (fun hb13 h => ?_) (fun hb13 h => ?_))⟩)))
 exact bk h fun x14 hx15 h => ⟨idx_bd hx15, _, (idx_row hx15).trans (TIns.cells_eq x14), ⟨row cI ([x14.fA] : List Int), row_lit cI ([x14.fA] : List Int) rfl (cll_refl rfl), (bk h fun l16 hx17 h => ⟨rfl, rfl, lapp_bd hx17, l16.length, row cI l16, lapp_len hx17, lapp_row hx17 shows_all (src_own shows_all), (lg (ih8 _ _ _ _ h rfl) (tk [0] ⟨.l, .i, .o, .i, .i, ⟨⟩⟩ ⟨nw, ⟨⟩⟩))⟩)⟩⟩
 refine .d (bk h fun x18 hx19 h => ⟨idx_bd hx19, _, (idx_row hx19).trans (TIns.cells_eq x18), (sE h (fun hb20 h => ?_) (fun hb20 h => ?_))⟩)
 refine .t (.t (.t (.t (.t (sD h (fun hb21 h => ?_) (fun hb21 h => ?_))))))
 exact ⟨row cI ([W64 (y5 + 1)] : List Int), row_lit cI ([W64 (y5 + 1)] : List Int) rfl (cll_refl rfl), (bk h fun l22 hx23 h => ⟨rfl, rfl, lapp_bd hx23, l22.length, row cI l22, lapp_len hx23, lapp_row hx23 shows_all (src_own shows_all), (lg (ih8 _ _ _ _ h rfl) (tk [0] ⟨.l, .i, .o, .i, .i, ⟨⟩⟩ ⟨nw, ⟨⟩⟩))⟩)⟩
 refine .d ?_
 obtain rfl := si h
 replace h := hk4
 obtain rfl := si h
 exact en [] ⟨rfl, rfl⟩ .r ⟨⟩
 refine .f (.f (.f (.f (.f (.f (.d ?_))))))
 obtain rfl := si h
 replace h := hk4
 obtain rfl := si h
 exact en [] ⟨rfl, rfl⟩ .r ⟨⟩
 exact ct ⟨_, si h, rfl, rfl⟩ (tk [0] ⟨.o, ⟨⟩⟩ ⟨nw, ⟨⟩⟩)
 rintro _ _ ⟨l1, rfl, rfl, rfl⟩
 replace h := hk4
 refine .d ?_
 obtain rfl := si h
 exact en [] ⟨rfl, rfl⟩ .r ⟨⟩
def m_i_moved_L4 (a0 : TIns) (a1 : List Int) (y12 : Int) (y13 : Int) : Option (Int) :=
 (if y13 < (a1.length : Int) then
 idx a1 y13 >>= fun x17 =>
 (if x17 < a0.fA then
 m_i_moved_L4 a0 a1 (W64 (y12 + 1)) (W64 (y13 + 1))
 else
 m_i_moved_L4 a0 a1 y12 (W64 (y13 + 1)))
 else
 some y12)
partial_fixpoint
def m_i_moved (a0 : TIns) (a1 : List Int) : Option (TIns) :=
 (
 m_i_HasTarget a0.fOp >>= fun v5 =>
 (if v5 = true then
 (
 m_i_moved_L4 a0 a1 0 0
 : Option (Int)) >>= fun y8 =>
 some y8
 else
 some a0.fA)
 : Option (Int)) >>= fun y1 =>
 some (TIns.mk a0.fOp y1 a0.fB a0.fS a0.fT)
theorem ok_i_moved {a0 : TIns} {a1 : List Int} {r : TIns} (h : m_i_moved a0 a1 = some r) : ACall Try.prog 37 [.agg a0.lit, sl 1 cI a1] [] (fun res h => res = .agg r.lit ∧ h = []) := by
 refine vc1 Try.func37 ?_
 unfold m_i_moved at h
 refine .d ?_
 obtain ⟨o2, ho3, hk4⟩ := bd h
 replace h := ho3
 refine .cut (fun σ η => ∃ y1, y1 = o2 ∧ σ = [(2, .optr 0 0 0 0), (4, .optr 1 0 0 0)] ∧ η = [.row 0 5 1 53 (fun _ => [.int .i64 a0.fOp, .int .i64 y1, .int .i64 a0.fB, .str a0.fS, .str a0.fT]), .row 0 5 1 53 (fun _ => [.int .i64 0, .int .i64 0, .int .i64 0, .str [], .str []])]) ?_ ?_
 refine .d ⟨rfl, ⟨rfl, _, rfl, (bk h fun v5 hv6 h => (pcP (ok_i_HasTarget hv6) (sV h (fun hb7 h => ?_) (fun hb7 h => ?_))))⟩⟩
 refine .d ?_
 obtain ⟨o9, ho10, hk11⟩ := bd h
 replace h := ho10
 refine .cut (fun σ η => ∃ y8, y8 = o9 ∧ σ = [(2, .optr 0 0 0 0), (4, .optr 1 0 0 0), (5, .int .i64 y8)] ∧ η = [.row 0 5 1 53 (fun _ => a0.lit), .row 0 5 1 53 (fun _ => [.int .i64 0, .int .i64 0, .int .i64 0, .str [], .str []])]) ?_ ?_
 refine .d ?_
 refine le (m_i_moved_L4.partial_correctness a0 a1 (motive := fun y12 y13 o20 => o9 = o20 → LoopAt _ _ [(2, .optr 0 0 0 0), (4, .optr 1 0 0 0), (5, .int .i64 y12), (11, sl 1 cI a1), (12, .int .i64 (a1.length : Int)), (13, .int .i64 y13)] [.row 0 5 1 53 (fun _ => a0.lit), .row 0 5 1 53 (fun _ => [.int .i64 0, .int .i64 0, .int .i64 0, .str [], .str []])]) ?_ 0 0 o9 h rfl) (tk [0, 1] ⟨.p, .p, .i, .l, .i, .i, ⟨⟩⟩ ⟨(nbp rfl), (nbp rfl), ⟨⟩⟩)
 intro F15 ih14 y12 y13 o20 h hr21
 subst hr21
 refine LoopAt.round (.d (.d (sD h (fun hb16 h => ?_) (fun hb16 h => ?_))))
 refine .d (.d (bk h fun x17 hx18 h => ⟨idx_bd hx18, _, (idx_row hx18).trans rfl, (.d ⟨rfl, ⟨rfl, _, rfl, (sD h (fun hb19 h => ?_) (fun hb19 h => ?_))⟩⟩)⟩))
 exact lg (ih14 _ _ _ h rfl) (tk [0, 1] ⟨.p, .p, .i, .l, .i, .i, ⟨⟩⟩ ⟨(nbp rfl), (nbp rfl), ⟨⟩⟩)
 exact lg (ih14 _ _ _ h rfl) (tk [0, 1] ⟨.p, .p, .i, .l, .i, .i, ⟨⟩⟩ ⟨(nbp rfl), (nbp rfl), ⟨⟩⟩)
 exact ct ⟨_, si h, rfl, rfl⟩ (tk [0, 1] ⟨.p, .p, .i, ⟨⟩⟩ ⟨(nbp rfl), (nbp rfl), ⟨⟩⟩)
 rintro _ _ ⟨y8, rfl, rfl, rfl⟩
 replace h := hk11
 exact ⟨rfl, ⟨rfl, _, fun _ => [.int .i64 a0.fOp, .int .i64 y8, .int .i64 a0.fB, .str a0.fS, .str a0.fT], rfl, one_set rfl, (ct ⟨_, si h, rfl, rfl⟩ (tk [0, 1] ⟨.p, .p, ⟨⟩⟩ ⟨(nbp rfl), (nbp rfl), ⟨⟩⟩))⟩⟩
 exact ct ⟨_, si h, rfl, rfl⟩ (tk [0, 1] ⟨.p, .p, ⟨⟩⟩ ⟨(nbp rfl), (nbp rfl), ⟨⟩⟩)
 rintro _ _ ⟨y1, rfl, rfl, rfl⟩
 replace h := hk4
 refine .d ⟨rfl, _, rfl, ⟨rfl, _, fun _ => [.int .i64 a0.fOp, .int .i64 y1, .int .i64 a0.fB, .str a0.fS, .str a0.fT], rfl, one_set rfl, ?_⟩⟩
 obtain rfl := si h
 exact ⟨rfl, _, rfl, (en [] ⟨rfl, rfl⟩ (.agg_l ⟨.i, .i, .i, .s, .s, ⟨⟩⟩) ⟨⟩)⟩
def m_i_CheckDrop_L2 (a0 : TFunc) (a1 : TFunc) (a2 : List Int) (l15 : List (Int × Bool)) (y16 : Int) : Option (((List (Int × Bool))) ⊕ Bool) :=
 (if y16 < (a2.length : Int) then
 idx a2 y16 >>= fun x20 =>
 m_i_InRange x20 0 (W64 ((a0.fCode.length : Int) - 1)) >>= fun v22 =>
 (if v22 = true then
 (if y16 > 0 then
 idx a2 (W64 (y16 - 1)) >>= fun x26 =>
 (if x26 ≥ x20 then
 some (.inr false)
 else
 idx a1.fCode y16 >>= fun x29 =>
 idx a0.fCode x20 >>= fun x31 =>
 m_i_moved x31 a2 >>= fun v33 =>
 (if x29 = v33 then
 m_i_CheckDrop_L2 a0 a1 a2 (mput l15 x20 true) (W64 (y16 + 1))
 else
 some (.inr false)))
 else
 idx a1.fCode y16 >>= fun x36 =>
 idx a0.fCode x20 >>= fun x38 =>
 m_i_moved x38 a2 >>= fun v40 =>
 (if x36 = v40 then
 m_i_CheckDrop_L2 a0 a1 a2 (mput l15 x20 true) (W64 (y16 + 1))
 else
 some (.inr false)))
 else
 some (.inr false))
 else
 some (.inl l15))
partial_fixpoint
def m_i_CheckDrop_L4 (a0 : TFunc) (l11 : List (Int × Bool)) (v45 : List Int) (y51 : Int) : Option ((Unit) ⊕ Bool) :=
 (if y51 < (a0.fCode.length : Int) then
 idx a0.fCode y51 >>= fun x55 =>
 (if (mgd l11 y51 false) = true then
 m_i_CheckDrop_L4 a0 l11 v45 (W64 (y51 + 1))
 else
 idx v45 y51 >>= fun x58 =>
 (if x58 ≥ 0 then
 (if x55.fOp = 1 then
 m_i_CheckDrop_L4 a0 l11 v45 (W64 (y51 + 1))
 else
 some (.inr false))
 else
 m_i_CheckDrop_L4 a0 l11 v45 (W64 (y51 + 1))))
 else
 some (.inl ()))
partial_fixpoint
def m_i_CheckDrop (a0 : TFunc) (a1 : TFunc) (a2 : List Int) : Option (Bool) :=
 m_i_IsFunc a0 >>= fun v1 =>
 (if v1 = true then
 m_i_IsFunc a1 >>= fun v4 =>
 (if v4 = true then
 m_i_agree a0 a1 >>= fun v7 =>
 (if v7 = true then
 (if (a2.length : Int) = (a1.fCode.length : Int) then
 ((
 m_i_CheckDrop_L2 a0 a1 a2 ([] : List (Int × Bool)) 0
 : Option (((List (Int × Bool))) ⊕ Bool)) >>= fun o12 => match o12 with
 | .inr r => some r
 | .inl l11 =>
 m_i_HeightsOf a0 >>= fun (v45, v46) =>
 ((
 m_i_CheckDrop_L4 a0 l11 v45 0
 : Option ((Unit) ⊕ Bool)) >>= fun o48 => match o48 with
 | .inr r => some r
 | .inl _ =>
 some true
 )
 )
 else
 some false)
 else
 some false)
 else
 some false)
 else
 some false)
theorem ok_i_CheckDrop {a0 : TFunc} {a1 : TFunc} {a2 : List Int} {r : Bool} (h : m_i_CheckDrop a0 a1 a2 = some r) : ACall Try.prog 11 [.agg a0.lit, .agg a1.lit, sl 1 cI a2] [] (fun res h => res = .bool r ∧ h = []) := by
 refine vc1 Try.func11 ?_
 unfold m_i_CheckDrop at h
 refine .d (.d (.d ⟨rfl, _, rfl, (bk h fun v1 hv2 h => (pcP (ok_i_IsFunc hv2) (sVn h (fun hb3 h => ?_) (fun hb3 h => ?_))))⟩))
 refine .t (.t (.t (.t (.t (.t (.t (.t (.t (.t (.t (.t (.t (.t (.t ?_))))))))))))))
 exact .t (.d (eB h))
 refine ⟨rfl, _, rfl, (.f (bk h fun v4 hv5 h => (pcP (ok_i_IsFunc hv5) (.f (.f (sVn h (fun hb6 h => ?_) (fun hb6 h => ?_)))))))⟩
 exact .t (.t (.t (.t (.t (.t (.t (.t (.t (.t (.t (.t (.d (eB h)))))))))))))
 refine ⟨rfl, _, rfl, (.f ⟨rfl, _, rfl, (.f (bk h fun v7 hv8 h => (pcP (ok_i_agree hv8) (.f (.f (sVn h (fun hb9 h => ?_) (fun hb9 h => ?_)))))))⟩)⟩
 exact .t (.t (.t (.t (.t (.t (.t (.d (eB h))))))))
 refine .f (.f ⟨rfl, (.f ⟨rfl, _, rfl, (.f (.f (.f (sN h (fun hb10 h => ?_) (fun hb10 h => ?_)))))⟩)⟩)
 exact .d (eB h)
 refine .d ⟨row (mc (PV.int .i64) (PV.bool)) ([] : List (Int × Bool)), ?_⟩
 obtain ⟨o12, ho13, hk14⟩ := bd h
 replace h := ho13
 refine .cut (fun σ η => ∃ l11, .inl l11 = o12 ∧ σ = [(3, .optr 0 0 0 0), (7, .omp 1)] ∧ η = [.row 0 6 1 33 (fun _ => a0.lit), .row 0 2 l11.length 58 (row (mc (PV.int .i64) (PV.bool)) l11)]) ?_ ?_
 refine .d ?_
 refine le (m_i_CheckDrop_L2.partial_correctness a0 a1 a2 (motive := fun l15 y16 o43 => o12 = o43 → LoopAt _ _ [(2, sl 1 cI a2), (3, .optr 0 0 0 0), (4, .optr 1 0 0 0), (7, .omp 2), (37, sl 1 cI a2), (38, .int .i64 (a2.length : Int)), (39, .int .i64 y16)] [.row 0 6 1 33 (fun _ => a0.lit), .row 0 6 1 33 (fun _ => a1.lit), .row 0 2 l15.length 58 (row (mc (PV.int .i64) (PV.bool)) l15)]) ?_ ([] : List (Int × Bool)) 0 o12 h rfl) (tk [0, 1, 2] ⟨.l, .p, .p, .m, .l, .i, .i, ⟨⟩⟩ ⟨(nbp rfl), (nbp rfl), ⟨fun h0 => absurd (show 2 < 0 from h0) (by decide), rfl, .inl rfl, rfl, fz_mrow (fun _ => rfl) (fun _ => rfl)⟩, ⟨⟩⟩)
 intro F18 ih17 l15 y16 o43 h hr44
 subst hr44
 refine LoopAt.round (.d (.d (sD h (fun hb19 h => ?_) (fun hb19 h => ?_))))
 refine .d (.d (bk h fun x20 hx21 h => ⟨idx_bd hx21, _, (idx_row hx21).trans rfl, (.d (.d (.float [(0, true), (1, true), (2, true), (3, true), (4, true), (5, false), (6, true), (7, true), (8, true), (9, true), (10, true), (11, true), (12, true), (13, true), (14, true), (15, true), (16, true), (17, true), (18, true), (19, true), (20, true), (21, true), (22, true), (23, true), (24, true), (25, true), (26, true), (27, true), (28, true), (29, true), (30, true), (31, true), (32, false), (33, true), (34, true)] (by kernel_rfl) ?_)))⟩))
 refine ⟨rfl, ⟨rfl, _, rfl, (bk h fun v22 hv23 h => (pcP (ok_i_InRange hv23) (sVn h (fun hb24 h => ?_) (fun hb24 h => ?_))))⟩⟩
 refine .t (.t (.t (.t (.t (.t (.t (.t (.t (.t (.t (.t (.t (.t (.t ?_))))))))))))))
 refine .t ⟨rfl, (.t (.t (.t (.d ?_))))⟩
 obtain rfl := si h
 replace h := hk14
 exact eB h
 refine .f (.f (sD h (fun hb25 h => ?_) (fun hb25 h => ?_)))
 refine .t (.t (.t (bk h fun x26 hx27 h => ⟨idx_bd hx27, _, (idx_row hx27).trans rfl, (.t (.t (.t (.f (.t (.f (sD h (fun hb28 h => ?_) (fun hb28 h => ?_))))))))⟩)))
 refine .t (.t (.t (.t (.t (.t (.t (.t (.t (.t (.t ⟨rfl, (.t (.t (.t ?_)))⟩))))))))))
 refine .d ?_
 obtain rfl := si h
 replace h := hk14
 exact eB h
 refine ⟨rfl, (.f ⟨rfl, _, rfl, (.f (.f (bk h fun x29 hx30 h => ⟨idx_bd hx30, _, (idx_row hx30).trans (TIns.cells_eq x29), (.f (.f ⟨rfl, (.f ⟨rfl, _, rfl, (.f (.f (bk h fun x31 hx32 h => ?_)))⟩)⟩))⟩)))⟩)⟩
 refine ⟨idx_bd hx32, _, (idx_row hx32).trans (TIns.cells_eq x31), (.f (.f (.f (bk h fun v33 hv34 h => (pcP (ok_i_moved hv34) ⟨rfl, ⟨rfl, (.f ⟨_, TIns.eq_cells x29 v33, (.f (sDn h (fun hb35 h => ?_) (fun hb35 h => ?_)))⟩)⟩⟩)))))⟩
 refine .d ?_
 obtain rfl := si h
 replace h := hk14
 exact eB h
 exact ⟨(mput l15 x20 true).length, row (mc (PV.int .i64) (PV.bool)) (mput l15 x20 true), mupd_of (ti := tabT.get 3) (c := PV.int .i64) (d := PV.bool) (key_int .i64) l15 x20 true, (lg (ih17 _ _ _ h rfl) (tk [0, 1, 2] ⟨.l, .p, .p, .m, .l, .i, .i, ⟨⟩⟩ ⟨(nbp rfl), (nbp rfl), ⟨fun h0 => absurd (show 2 < 0 from h0) (by decide), rfl, .inl rfl, rfl, fz_mrow (fun _ => rfl) (fun _ => rfl)⟩, ⟨⟩⟩))⟩
 refine .f (.f (.f (.f (.f (.f (.f (.f (.f (.f ⟨rfl, (.f ⟨rfl, _, rfl, (.f (.f ?_))⟩)⟩)))))))))
 refine bk h fun x36 hx37 h => ⟨idx_bd hx37, _, (idx_row hx37).trans (TIns.cells_eq x36), (.f (.f ⟨rfl, (.f ⟨rfl, _, rfl, (.f (.f (bk h fun x38 hx39 h => ⟨idx_bd hx39, _, (idx_row hx39).trans (TIns.cells_eq x38), (.f (.f (.f (bk h fun v40 hv41 h => ?_))))⟩)))⟩)⟩))⟩
 refine pcP (ok_i_moved hv41) ⟨rfl, ⟨rfl, (.f ⟨_, TIns.eq_cells x36 v40, (.f (sDn h (fun hb42 h => ?_) (fun hb42 h => ?_)))⟩)⟩⟩
 refine .d ?_
 obtain rfl := si h
 replace h := hk14
 exact eB h
 exact ⟨(mput l15 x20 true).length, row (mc (PV.int .i64) (PV.bool)) (mput l15 x20 true), mupd_of (ti := tabT.get 3) (c := PV.int .i64) (d := PV.bool) (key_int .i64) l15 x20 true, (lg (ih17 _ _ _ h rfl) (tk [0, 1, 2] ⟨.l, .p, .p, .m, .l, .i, .i, ⟨⟩⟩ ⟨(nbp rfl), (nbp rfl), ⟨fun h0 => absurd (show 2 < 0 from h0) (by decide), rfl, .inl rfl, rfl, fz_mrow (fun _ => rfl) (fun _ => rfl)⟩, ⟨⟩⟩))⟩
 exact ct ⟨_, si h, rfl, rfl⟩ (tk [0, 2] ⟨.p, .m, ⟨⟩⟩ ⟨(nbp rfl), ⟨fun h0 => absurd (show 1 < 0 from h0) (by decide), rfl, .inl rfl, rfl, fz_mrow (fun _ => rfl) (fun _ => rfl)⟩, ⟨⟩⟩)
 rintro _ _ ⟨l11, rfl, rfl, rfl⟩
 replace h := hk14
 refine .d ⟨rfl, _, rfl, ?_⟩
 obtain ⟨⟨v45, v46⟩, hv47, h⟩ := bd h
 refine pcP (ok_i_HeightsOf hv47) ?_
 obtain ⟨o48, ho49, hk50⟩ := bd h
 replace h := ho49
 refine .cut (fun σ η => .inl () = o48 ∧ σ = [] ∧ η = []) ?_ ?_
 refine .d ⟨rfl, ⟨rfl, _, rfl, ?_⟩⟩
 refine le (m_i_CheckDrop_L4.partial_correctness a0 l11 v45 (motive := fun y51 o62 => o48 = o62 → LoopAt _ _ [(7, .omp 0), (10, sl 1 cI v45), (88, sl 5 TIns.cells a0.fCode), (89, .int .i64 (a0.fCode.length : Int)), (90, .int .i64 y51)] [.row 0 2 l11.length 58 (row (mc (PV.int .i64) (PV.bool)) l11)]) ?_ 0 o48 h rfl) (tk [1] ⟨.m, .l, .l, .i, .i, ⟨⟩⟩ ⟨⟨fun h0 => absurd (show 0 < 0 from h0) (by decide), rfl, .inl rfl, rfl, fz_mrow (fun _ => rfl) (fun _ => rfl)⟩, ⟨⟩⟩)
 intro F53 ih52 y51 o62 h hr63
 subst hr63
 refine LoopAt.round (.d (.d (sD h (fun hb54 h => ?_) (fun hb54 h => ?_))))
 refine .d (.d (bk h fun x55 hx56 h => ⟨idx_bd hx56, _, (idx_row hx56).trans (TIns.cells_eq x55), ⟨rfl, _, fun _ => [.int .i64 x55.fOp, .int .i64 x55.fA, .int .i64 x55.fB, .str x55.fS, .str x55.fT], rfl, one_set rfl, (.d ⟨.bool (mgd l11 y51 false), mhas l11 y51, mlook_of (ti := tabT.get 3) (c := PV.int .i64) (d := PV.bool) (key_int .i64) l11 y51 false, (sVn h (fun hb57 h => ?_) (fun hb57 h => ?_))⟩)⟩⟩))
 refine .t (.t (bk h fun x58 hx59 h => ⟨idx_bd hx59, _, (idx_row hx59).trans rfl, (.t (.t (.t (sD h (fun hb60 h => ?_) (fun hb60 h => ?_)))))⟩))
 refine ⟨rfl, (.t ⟨rfl, _, rfl, (.t (.t (sN h (fun hb61 h => ?_) (fun hb61 h => ?_))))⟩)⟩
 refine .d ?_
 obtain rfl := si h
 replace h := hk50
 exact eB h
 exact lg (ih52 _ _ h rfl) (tk [0] ⟨.m, .l, .l, .i, .i, ⟨⟩⟩ ⟨⟨fun h0 => absurd (show 0 < 0 from h0) (by decide), rfl, .inl rfl, rfl, fz_mrow (fun _ => rfl) (fun _ => rfl)⟩, ⟨⟩⟩)
 exact .f (.f (.f (.f (lg (ih52 _ _ h rfl) (tk [0] ⟨.m, .l, .l, .i, .i, ⟨⟩⟩ ⟨⟨fun h0 => absurd (show 0 < 0 from h0) (by decide), rfl, .inl rfl, rfl, fz_mrow (fun _ => rfl) (fun _ => rfl)⟩, ⟨⟩⟩)))))
 exact .f (.f (.f (.f (.f (.f (.f (.f (.f (.f (lg (ih52 _ _ h rfl) (tk [0] ⟨.m, .l, .l, .i, .i, ⟨⟩⟩ ⟨⟨fun h0 => absurd (show 0 < 0 from h0) (by decide), rfl, .inl rfl, rfl, fz_mrow (fun _ => rfl) (fun _ => rfl)⟩, ⟨⟩⟩)))))))))))
 exact ct ⟨si h, rfl, rfl⟩ (tk [] ⟨⟩ ⟨⟩)
 rintro _ _ ⟨rfl, rfl, rfl⟩
 replace h := hk50
 exact .d (eB h)
def m_i_CheckThread_L2 (a0 : TFunc) (a1 : TFunc) (y14 : Int) : Option ((Unit) ⊕ Bool) :=
 (if y14 < (a0.fCode.length : Int) then
 idx a0.fCode y14 >>= fun x18 =>
 idx a1.fCode y14 >>= fun x20 =>
 m_i_HasTarget x18.fOp >>= fun v22 =>
 (if v22 = true then
 (if x20.fOp = x18.fOp then
 m_i_walkFrom a0.fCode x18.fA >>= fun v26 =>
 m_ContainsN v26 x20.fA >>= fun v28 =>
 (if v28 = true then
 (if x18 = (TIns.mk x20.fOp x18.fA x20.fB x20.fS x20.fT) then
 m_i_CheckThread_L2 a0 a1 (W64 (y14 + 1))
 else
 some (.inr false))
 else
 (if x18 = x20 then
 m_i_CheckThread_L2 a0 a1 (W64 (y14 + 1))
 else
 some (.inr false)))
 else
 (if x18 = x20 then
 m_i_CheckThread_L2 a0 a1 (W64 (y14 + 1))
 else
 some (.inr false)))
 else
 (if x18 = x20 then
 m_i_CheckThread_L2 a0 a1 (W64 (y14 + 1))
 else
 some (.inr false)))
 else
 some (.inl ()))
partial_fixpoint
def m_i_CheckThread (a0 : TFunc) (a1 : TFunc) : Option (Bool) :=
 m_i_IsFunc a0 >>= fun v1 =>
 (if v1 = true then
 m_i_IsFunc a1 >>= fun v4 =>
 (if v4 = true then
 m_i_agree a0 a1 >>= fun v7 =>
 (if v7 = true then
 (if (a0.fCode.length : Int) = (a1.fCode.length : Int) then
 ((
 m_i_CheckThread_L2 a0 a1 0
 : Option ((Unit) ⊕ Bool)) >>= fun o11 => match o11 with
 | .inr r => some r
 | .inl _ =>
 some true
 )
 else
 some false)
 else
 some false)
 else
 some false)
 else
 some false)
theorem ok_i_CheckThread {a0 : TFunc} {a1 : TFunc} {r : Bool} (h : m_i_CheckThread a0 a1 = some r) : ACall Try.prog 15 [.agg a0.lit, .agg a1.lit] [] (fun res h => res = .bool r ∧ h = []) := by
 refine vc1 Try.func15 ?_
 unfold m_i_CheckThread at h
 refine .d (.d (.d ⟨rfl, _, rfl, (bk h fun v1 hv2 h => (pcP (ok_i_IsFunc hv2) (sVn h (fun hb3 h => ?_) (fun hb3 h => ?_))))⟩))
 refine .t (.t (.t (.t (.t (.t (.t (.t (.t (.t (.t (.t (.t (.t (.t ?_))))))))))))))
 exact .t (.t (.d (eB h)))
 refine ⟨rfl, _, rfl, (.f (bk h fun v4 hv5 h => (pcP (ok_i_IsFunc hv5) (.f (.f (sVn h (fun hb6 h => ?_) (fun hb6 h => ?_)))))))⟩
 exact .t (.t (.t (.t (.t (.t (.t (.t (.t (.t (.t (.t (.t (.d (eB h))))))))))))))
 refine ⟨rfl, _, rfl, (.f ⟨rfl, _, rfl, (.f (bk h fun v7 hv8 h => (pcP (ok_i_agree hv8) (.f (.f (sVn h (fun hb9 h => ?_) (fun hb9 h => ?_)))))))⟩)⟩
 exact .t (.t (.t (.t (.t (.t (.t (.t (.d (eB h)))))))))
 refine ⟨rfl, (.f ⟨rfl, _, rfl, (.f (.f ⟨rfl, (.f ⟨rfl, _, rfl, (.f (.f (.f (sN h (fun hb10 h => ?_) (fun hb10 h => ?_)))))⟩)⟩))⟩)⟩
 exact .d (eB h)
 obtain ⟨o11, ho12, hk13⟩ := bd h
 replace h := ho12
 refine .cut (fun σ η => .inl () = o11 ∧ σ = [] ∧ η = []) ?_ ?_
 refine .d ⟨rfl, ⟨rfl, _, rfl, ?_⟩⟩
 refine le (m_i_CheckThread_L2.partial_correctness a0 a1 (motive := fun y14 o35 => o11 = o35 → LoopAt _ _ [(2, .optr 0 0 0 0), (3, .optr 1 0 0 0), (32, sl 5 TIns.cells a0.fCode), (33, .int .i64 (a0.fCode.length : Int)), (34, .int .i64 y14)] [.row 0 6 1 33 (fun _ => a0.lit), .row 0 6 1 33 (fun _ => a1.lit)]) ?_ 0 o11 h rfl) (tk [0, 1] ⟨.p, .p, .l, .i, .i, ⟨⟩⟩ ⟨(nbp rfl), (nbp rfl), ⟨⟩⟩)
 intro F16 ih15 y14 o35 h hr36
 subst hr36
 refine LoopAt.round (.d (.d (sD h (fun hb17 h => ?_) (fun hb17 h => ?_))))
 refine .d (.d (bk h fun x18 hx19 h => ⟨idx_bd hx19, _, (idx_row hx19).trans (TIns.cells_eq x18), ⟨rfl, _, fun _ => [.int .i64 x18.fOp, .int .i64 x18.fA, .int .i64 x18.fB, .str x18.fS, .str x18.fT], rfl, one_set rfl, (.d ⟨rfl, ⟨rfl, _, rfl, (bk h fun x20 hx21 h => ⟨idx_bd hx21, _, (idx_row hx21).trans (TIns.cells_eq x20), ⟨rfl, _, fun _ => [.int .i64 x20.fOp, .int .i64 x20.fA, .int .i64 x20.fB, .str x20.fS, .str x20.fT], rfl, one_set rfl, (.d (.d (.float [(0, true), (1, true), (2, false), (3, true), (4, true), (5, true), (6, true), (7, true), (8, true), (9, true), (10, true), (11, true), (12, true), (13, true), (14, true), (16, true), (17, true), (15, false), (18, false), (19, true)] (by kernel_rfl) ?_)))⟩⟩)⟩⟩)⟩⟩))
 refine ⟨rfl, ⟨rfl, _, rfl, (bk h fun v22 hv23 h => (pcP (ok_i_HasTarget hv23) (sV h (fun hb24 h => ?_) (fun hb24 h => ?_))))⟩⟩
 refine ⟨rfl, (.t ⟨rfl, _, rfl, (.t ⟨rfl, (.t ⟨rfl, _, rfl, (.t (.t (sE h (fun hb25 h => ?_) (fun hb25 h => ?_))))⟩)⟩)⟩)⟩
 refine ⟨rfl, (.t ⟨rfl, _, rfl, (.t ⟨rfl, (.t ⟨rfl, _, rfl, (.t ⟨rfl, (.t ⟨rfl, _, rfl, (.t (bk h fun v26 hv27 h => (pcP (ok_i_walkFrom hv27) ⟨rfl, ?_⟩)))⟩)⟩)⟩)⟩)⟩)⟩
 refine ⟨rfl, (.t (bk h fun v28 hv29 h => (pcP (ok_ContainsN hv29) (.t (sV h (fun hb30 h => ?_) (fun hb30 h => ?_))))))⟩
 refine ⟨rfl, ⟨rfl, _, rfl, ⟨rfl, ⟨rfl, _, fun _ => [.int .i64 x20.fOp, .int .i64 x18.fA, .int .i64 x20.fB, .str x20.fS, .str x20.fT], rfl, one_set rfl, (.d ⟨rfl, _, rfl, ⟨rfl, _, rfl, ⟨_, TIns.eq_cells x18 (TIns.mk x20.fOp x18.fA x20.fB x20.fS x20.fT), (sDn h (fun hb31 h => ?_) (fun hb31 h => ?_))⟩⟩⟩)⟩⟩⟩⟩
 refine .d ?_
 obtain rfl := si h
 replace h := hk13
 exact eB h
 exact lg (ih15 _ _ h rfl) (tk [0, 1] ⟨.p, .p, .l, .i, .i, ⟨⟩⟩ ⟨(nbp rfl), (nbp rfl), ⟨⟩⟩)
 refine .d ⟨rfl, _, rfl, ⟨rfl, _, rfl, ⟨_, TIns.eq_cells x18 x20, (sDn h (fun hb32 h => ?_) (fun hb32 h => ?_))⟩⟩⟩
 refine .d ?_
 obtain rfl := si h
 replace h := hk13
 exact eB h
 exact lg (ih15 _ _ h rfl) (tk [0, 1] ⟨.p, .p, .l, .i, .i, ⟨⟩⟩ ⟨(nbp rfl), (nbp rfl), ⟨⟩⟩)
 refine .f (.f (.f (.f (.f (.f ⟨rfl, (.f (.f (.f (.d ⟨rfl, _, rfl, ⟨rfl, _, rfl, ⟨_, TIns.eq_cells x18 x20, (sDn h (fun hb33 h => ?_) (fun hb33 h => ?_))⟩⟩⟩))))⟩)))))
 refine .d ?_
 obtain rfl := si h
 replace h := hk13
 exact eB h
 exact lg (ih15 _ _ h rfl) (tk [0, 1] ⟨.p, .p, .l, .i, .i, ⟨⟩⟩ ⟨(nbp rfl), (nbp rfl), ⟨⟩⟩)
 refine .f (.f (.f (.f (.f (.f (.f (.f (.f (.f (.f (.f ⟨rfl, (.f (.f ?_))⟩)))))))))))
 refine .f (.d ⟨rfl, _, rfl, ⟨rfl, _, rfl, ⟨_, TIns.eq_cells x18 x20, (sDn h (fun hb34 h => ?_) (fun hb34 h => ?_))⟩⟩⟩)
 refine .d ?_
 obtain rfl := si h
 replace h := hk13
 exact eB h
 exact lg (ih15 _ _ h rfl) (tk [0, 1] ⟨.p, .p, .l, .i, .i, ⟨⟩⟩ ⟨(nbp rfl), (nbp rfl), ⟨⟩⟩)
 exact ct ⟨si h, rfl, rfl⟩ (tk [] ⟨⟩ ⟨⟩)
 rintro _ _ ⟨rfl, rfl, rfl⟩
 replace h := hk13
 exact .d (eB h)
def m_s_CheckDrop_L2 (a0 : TFunc) (a2 : List Int) (v11 : List Int) (l19 : List Int) (y20 : Int) (y21 : Int) : Option (((List Int) × Int) ⊕ Bool) :=
 (if y21 < (v11.length : Int) then
 lapp 8 l19 ([y20] : List Int) >>= fun l25 =>
 (
 (if y20 < (a2.length : Int) then
 idx a2 y20 >>= fun x32 =>
 some (x32 == y21)
 else
 some false)
 : Option (Bool)) >>= fun b27 =>
 (if b27 = true then
 m_s_CheckDrop_L2 a0 a2 v11 l25 (W64 (y20 + 1)) (W64 (y21 + 1))
 else
 idx v11 y21 >>= fun x35 =>
 (if x35 ≥ 0 then
 idx a0.fCode y21 >>= fun x38 =>
 (if x38.fOp = 1 then
 m_s_CheckDrop_L2 a0 a2 v11 l25 y20 (W64 (y21 + 1))
 else
 some (.inr false))
 else
 m_s_CheckDrop_L2 a0 a2 v11 l25 y20 (W64 (y21 + 1))))
 else
 some (.inl (l19, y20)))
partial_fixpoint
def m_s_CheckDrop_L4 (a0 : TFunc) (a1 : TFunc) (a2 : List Int) (l14 : List Int) (y47 : Int) : Option ((Unit) ⊕ Bool) :=
 (if y47 < (a2.length : Int) then
 idx a2 y47 >>= fun x51 =>
 idx a0.fCode x51 >>= fun x53 =>
 m_s_HasTarget x53.fOp >>= fun v55 =>
 (if v55 = true then
 idx l14 x53.fA >>= fun x58 =>
 idx a1.fCode y47 >>= fun x60 =>
 (if (TIns.mk x53.fOp x58 x53.fB x53.fS x53.fT) = x60 then
 m_s_CheckDrop_L4 a0 a1 a2 l14 (W64 (y47 + 1))
 else
 some (.inr false))
 else
 idx a1.fCode y47 >>= fun x63 =>
 (if x53 = x63 then
 m_s_CheckDrop_L4 a0 a1 a2 l14 (W64 (y47 + 1))
 else
 some (.inr false)))
 else
 some (.inl ()))
partial_fixpoint
def m_s_CheckDrop (a0 : TFunc) (a1 : TFunc) (a2 : List Int) : Option (Bool) :=
 m_s_IsFunc a0 >>= fun v1 =>
 (if v1 = true then
 m_s_IsFunc a1 >>= fun v4 =>
 (if v4 = true then
 m_s_l30Same a0 a1 >>= fun v7 =>
 (if v7 = true then
 (if (a2.length : Int) = (a1.fCode.length : Int) then
 m_s_HeightsOf a0 >>= fun (v11, v12) =>
 ((
 m_s_CheckDrop_L2 a0 a2 v11 ([] : List Int) 0 0
 : Option (((List Int) × Int) ⊕ Bool)) >>= fun o16 => match o16 with
 | .inr r => some r
 | .inl (l14, y15) =>
 (if y15 = (a2.length : Int) then
 ((
 m_s_CheckDrop_L4 a0 a1 a2 l14 0
 : Option ((Unit) ⊕ Bool)) >>= fun o44 => match o44 with
 | .inr r => some r
 | .inl _ =>
 some true
 )
 else
 some false)
 )
 else
 some false)
 else
 some false)
 else
 some false)
 else
 some false)
theorem ok_s_CheckDrop {a0 : TFunc} {a1 : TFunc} {a2 : List Int} {r : Bool} (h : m_s_CheckDrop a0 a1 a2 = some r) : ACall Try.prog 8 [.agg a0.lit, .agg a1.lit, sl 1 cI a2] [] (fun res h => res = .bool r ∧ h = []) := by
 refine vc1 Try.func8 ?_
 unfold m_s_CheckDrop at h
 refine .d (.d (.d ⟨rfl, _, rfl, (bk h fun v1 hv2 h => (pcP (ok_s_IsFunc hv2) (sVn h (fun hb3 h => ?_) (fun hb3 h => ?_))))⟩))
 refine .t (.t (.t (.t (.t (.t (.t (.t (.t (.t (.t (.t (.t (.t (.t ?_))))))))))))))
 exact .t (.d (eB h))
 refine ⟨rfl, _, rfl, (.f (bk h fun v4 hv5 h => (pcP (ok_s_IsFunc hv5) (.f (.f (sVn h (fun hb6 h => ?_) (fun hb6 h => ?_)))))))⟩
 exact .t (.t (.t (.t (.t (.t (.t (.t (.t (.t (.t (.t (.d (eB h)))))))))))))
 refine ⟨rfl, _, rfl, (.f ⟨rfl, _, rfl, (.f (bk h fun v7 hv8 h => (pcP (ok_s_l30Same hv8) (.f (.f (sVn h (fun hb9 h => ?_) (fun hb9 h => ?_)))))))⟩)⟩
 exact .t (.t (.t (.t (.t (.t (.t (.d (eB h))))))))
 refine .f (.f ⟨rfl, (.f ⟨rfl, _, rfl, (.f (.f (.f (sN h (fun hb10 h => ?_) (fun hb10 h => ?_)))))⟩)⟩)
 exact .d (eB h)
 refine .d ⟨rfl, _, rfl, ?_⟩
 obtain ⟨⟨v11, v12⟩, hv13, h⟩ := bd h
 refine pcP (ok_s_HeightsOf hv13) (.d ⟨row cI ([] : List Int), row_lit cI ([] : List Int) rfl (cll_refl rfl), (.d ?_)⟩)
 obtain ⟨o16, ho17, hk18⟩ := bd h
 replace h := ho17
 refine .cut (fun σ η => ∃ l14, ∃ y15, .inl (l14, y15) = o16 ∧ σ = [(2, sl 1 cI a2), (3, .optr 0 0 0 0), (4, .optr 1 0 0 0), (9, .own 2 0 0 l14.length), (10, .int .i64 y15)] ∧ η = [.row 0 6 1 33 (fun _ => a0.lit), .row 0 6 1 33 (fun _ => a1.lit), .row 0 1 l14.length 3 (row cI l14)]) ?_ ?_
 refine .d ?_
 refine le (m_s_CheckDrop_L2.partial_correctness a0 a2 v11 (motive := fun l19 y20 y21 o41 => o16 = o41 → LoopAt _ _ [(2, sl 1 cI a2), (3, .optr 0 0 0 0), (4, .optr 1 0 0 0), (7, sl 1 cI v11), (9, .own 2 0 0 l19.length), (10, .int .i64 y20), (11, .int .i64 y21)] [.row 0 6 1 33 (fun _ => a0.lit), .row 0 6 1 33 (fun _ => a1.lit), .row 0 1 l19.length 3 (row cI l19)]) ?_ ([] : List Int) 0 0 o16 h rfl) (tk [0, 1, 2] ⟨.l, .p, .p, .l, .o, .i, .i, ⟨⟩⟩ ⟨(nbp rfl), (nbp rfl), nw, ⟨⟩⟩)
 intro F23 ih22 l19 y20 y21 o41 h hr42
 subst hr42
 refine LoopAt.round (.d (.d (sD h (fun hb24 h => ?_) (fun hb24 h => ?_))))
 refine .d (.d ⟨row cI ([y20] : List Int), row_lit cI ([y20] : List Int) rfl (cll_refl rfl), (bk h fun l25 hx26 h => ⟨rfl, rfl, lapp_bd hx26, l25.length, row cI l25, lapp_len hx26, lapp_row hx26 shows_all (src_own shows_all), ?_⟩)⟩)
 obtain ⟨o28, ho29, hk30⟩ := bd h
 replace h := ho29
 refine .cut (fun σ η => ∃ b27, b27 = o28 ∧ σ = [(2, sl 1 cI a2), (3, .optr 0 0 0 0), (4, .optr 1 0 0 0), (7, sl 1 cI v11), (9, .own 2 0 0 l25.length), (10, .int .i64 y20), (11, .int .i64 y21), (63, .bool b27)] ∧ η = [.row 0 6 1 33 (fun _ => a0.lit), .row 0 6 1 33 (fun _ => a1.lit), .row 0 1 l25.length 3 (row cI l25)]) ?_ ?_
 refine sD h (fun hb31 h => ?_) (fun hb31 h => ?_)
 exact .t (.t (bk h fun x32 hx33 h => ⟨idx_bd hx33, _, (idx_row hx33).trans rfl, (.t (.t (.t (.t (ct ⟨_, si h, rfl, rfl⟩ (tk [0, 1, 2] ⟨.l, .p, .p, .l, .o, .i, .i, .b, ⟨⟩⟩ ⟨(nbp rfl), (nbp rfl), nw, ⟨⟩⟩))))))⟩))
 exact .f (.f (.f (.f (.f (.f (ct ⟨_, si h, rfl, rfl⟩ (tk [0, 1, 2] ⟨.l, .p, .p, .l, .o, .i, .i, .b, ⟨⟩⟩ ⟨(nbp rfl), (nbp rfl), nw, ⟨⟩⟩)))))))
 rintro _ _ ⟨b27, rfl, rfl, rfl⟩
 replace h := hk30
 refine sV h (fun hb34 h => ?_) (fun hb34 h => ?_)
 exact lg (ih22 _ _ _ _ h rfl) (tk [0, 1, 2] ⟨.l, .p, .p, .l, .o, .i, .i, ⟨⟩⟩ ⟨(nbp rfl), (nbp rfl), nw, ⟨⟩⟩)
 refine .d (bk h fun x35 hx36 h => ⟨idx_bd hx36, _, (idx_row hx36).trans rfl, (sD h (fun hb37 h => ?_) (fun hb37 h => ?_))⟩)
 refine ⟨rfl, (.t ⟨rfl, _, rfl, (.t (.t (bk h fun x38 hx39 h => ⟨idx_bd hx39, _, (idx_row hx39).trans (TIns.cells_eq x38), (.t (.t (.t (.t (sN h (fun hb40 h => ?_) (fun hb40 h => ?_))))))⟩)))⟩)⟩
 refine .d ?_
 obtain rfl := si h
 replace h := hk18
 exact eB h
 exact lg (ih22 _ _ _ _ h rfl) (tk [0, 1, 2] ⟨.l, .p, .p, .l, .o, .i, .i, ⟨⟩⟩ ⟨(nbp rfl), (nbp rfl), nw, ⟨⟩⟩)
 exact .f (.f (.f (.f (.f (.f (.f (.f (lg (ih22 _ _ _ _ h rfl) (tk [0, 1, 2] ⟨.l, .p, .p, .l, .o, .i, .i, ⟨⟩⟩ ⟨(nbp rfl), (nbp rfl), nw, ⟨⟩⟩)))))))))
 exact ct ⟨_, _, si h, rfl, rfl⟩ (tk [0, 1, 2] ⟨.l, .p, .p, .o, .i, ⟨⟩⟩ ⟨(nbp rfl), (nbp rfl), nw, ⟨⟩⟩)
 rintro _ _ ⟨l14, y15, rfl, rfl, rfl⟩
 replace h := hk18
 refine .d (.d (sN h (fun hb43 h => ?_) (fun hb43 h => ?_)))
 exact .d (eB h)
 obtain ⟨o44, ho45, hk46⟩ := bd h
 replace h := ho45
 refine .cut (fun σ η => .inl () = o44 ∧ σ = [] ∧ η = []) ?_ ?_
 refine .d ?_
 refine le (m_s_CheckDrop_L4.partial_correctness a0 a1 a2 l14 (motive := fun y47 o66 => o44 = o66 → LoopAt _ _ [(2, sl 1 cI a2), (3, .optr 0 0 0 0), (4, .optr 1 0 0 0), (9, .own 2 0 0 l14.length), (12, .int .i64 y47)] [.row 0 6 1 33 (fun _ => a0.lit), .row 0 6 1 33 (fun _ => a1.lit), .row 0 1 l14.length 3 (row cI l14)]) ?_ 0 o44 h rfl) (tk [0, 1, 2] ⟨.l, .p, .p, .o, .i, ⟨⟩⟩ ⟨(nbp rfl), (nbp rfl), nw, ⟨⟩⟩)
 intro F49 ih48 y47 o66 h hr67
 subst hr67
 refine LoopAt.round (.d (.d (sD h (fun hb50 h => ?_) (fun hb50 h => ?_))))
 refine .d (.d (.float [(0, true), (1, true), (2, true), (3, true), (4, true), (5, true), (6, true), (7, true), (8, false), (9, false)] (by kernel_rfl) ?_))
 refine ⟨rfl, ⟨rfl, _, rfl, (bk h fun x51 hx52 h => ⟨idx_bd hx52, _, (idx_row hx52).trans rfl, (bk h fun x53 hx54 h => ⟨idx_bd hx54, _, (idx_row hx54).trans (TIns.cells_eq x53), ⟨rfl, ⟨rfl, ⟨rfl, _, fun _ => [.int .i64 x53.fOp, .int .i64 x53.fA, .int .i64 x53.fB, .str x53.fS, .str x53.fT], rfl, one_set rfl, (.d (.d ⟨rfl, ⟨rfl, _, rfl, (bk h fun v55 hv56 h => (pcP (ok_s_HasTarget hv56) ?_))⟩⟩))⟩⟩⟩⟩)⟩)⟩⟩
 refine sV h (fun hb57 h => ?_) (fun hb57 h => ?_)
 refine ⟨rfl, ⟨rfl, _, rfl, (bk h fun x58 hx59 h => ⟨rfl, idx_bd hx59, _, Nat.zero_add _, ⟨rfl, _, ((idx_row hx59).trans rfl), ⟨rfl, ⟨rfl, _, fun _ => [.int .i64 x53.fOp, .int .i64 x58, .int .i64 x53.fB, .str x53.fS, .str x53.fT], rfl, one_set rfl, (.d ⟨rfl, _, rfl, ⟨rfl, ⟨rfl, _, rfl, (bk h fun x60 hx61 h => ⟨idx_bd hx61, _, (idx_row hx61).trans (TIns.cells_eq x60), ⟨_, TIns.eq_cells (TIns.mk x53.fOp x58 x53.fB x53.fS x53.fT) x60, (sDn h (fun hb62 h => ?_) (fun hb62 h => ?_))⟩⟩)⟩⟩⟩)⟩⟩⟩⟩)⟩⟩
 refine .d ?_
 obtain rfl := si h
 replace h := hk46
 exact eB h
 exact lg (ih48 _ _ h rfl) (tk [0, 1, 2] ⟨.l, .p, .p, .o, .i, ⟨⟩⟩ ⟨(nbp rfl), (nbp rfl), nw, ⟨⟩⟩)
 refine .d ⟨rfl, _, rfl, ⟨rfl, ⟨rfl, _, rfl, (bk h fun x63 hx64 h => ⟨idx_bd hx64, _, (idx_row hx64).trans (TIns.cells_eq x63), ⟨_, TIns.eq_cells x53 x63, (sDn h (fun hb65 h => ?_) (fun hb65 h => ?_))⟩⟩)⟩⟩⟩
 refine .d ?_
 obtain rfl := si h
 replace h := hk46
 exact eB h
 exact lg (ih48 _ _ h rfl) (tk [0, 1, 2] ⟨.l, .p, .p, .o, .i, ⟨⟩⟩ ⟨(nbp rfl), (nbp rfl), nw, ⟨⟩⟩)
 exact ct ⟨si h, rfl, rfl⟩ (tk [] ⟨⟩ ⟨⟩)
 rintro _ _ ⟨rfl, rfl, rfl⟩
 replace h := hk46
 exact .d (eB h)
def m_s_CheckThread_L2 (a0 : TFunc) (a1 : TFunc) (y14 : Int) : Option ((Unit) ⊕ Bool) :=
 (if y14 < (a0.fCode.length : Int) then
 idx a1.fCode y14 >>= fun x18 =>
 idx a0.fCode y14 >>= fun x20 =>
 (if x18.fOp = x20.fOp then
 m_s_HasTarget x18.fOp >>= fun v23 =>
 (if v23 = true then
 idx a0.fCode y14 >>= fun x26 =>
 m_s_l31Walk a0.fCode x26.fA x18.fA >>= fun (v28, v29) =>
 (if v29 = true then
 idx a0.fCode y14 >>= fun x32 =>
 idx a0.fCode y14 >>= fun x34 =>
 (if (TIns.mk x18.fOp x32.fA x18.fB x18.fS x18.fT) = x34 then
 m_s_CheckThread_L2 a0 a1 (W64 (y14 + 1))
 else
 some (.inr false))
 else
 some (.inr false))
 else
 idx a0.fCode y14 >>= fun x37 =>
 (if x18 = x37 then
 m_s_CheckThread_L2 a0 a1 (W64 (y14 + 1))
 else
 some (.inr false)))
 else
 some (.inr false))
 else
 some (.inl ()))
partial_fixpoint
def m_s_CheckThread (a0 : TFunc) (a1 : TFunc) : Option (Bool) :=
 m_s_IsFunc a0 >>= fun v1 =>
 (if v1 = true then
 m_s_IsFunc a1 >>= fun v4 =>
 (if v4 = true then
 m_s_l30Same a0 a1 >>= fun v7 =>
 (if v7 = true then
 (if (a0.fCode.length : Int) = (a1.fCode.length : Int) then
 ((
 m_s_CheckThread_L2 a0 a1 0
 : Option ((Unit) ⊕ Bool)) >>= fun o11 => match o11 with
 | .inr r => some r
 | .inl _ =>
 some true
 )
 else
 some false)
 else
 some false)
 else
 some false)
 else
 some false)
theorem ok_s_CheckThread {a0 : TFunc} {a1 : TFunc} {r : Bool} (h : m_s_CheckThread a0 a1 = some r) : ACall Try.prog 14 [.agg a0.lit, .agg a1.lit] [] (fun res h => res = .bool r ∧ h = []) := by
 refine vc1 Try.func14 ?_
 unfold m_s_CheckThread at h
 refine .d (.d (.d ⟨rfl, _, rfl, (bk h fun v1 hv2 h => (pcP (ok_s_IsFunc hv2) (sVn h (fun hb3 h => ?_) (fun hb3 h => ?_))))⟩))
 refine .t (.t (.t (.t (.t (.t (.t (.t (.t (.t (.t (.t (.t (.t (.t ?_))))))))))))))
 exact .t (.t (.d (eB h)))
 refine ⟨rfl, _, rfl, (.f (bk h fun v4 hv5 h => (pcP (ok_s_IsFunc hv5) (.f (.f (sVn h (fun hb6 h => ?_) (fun hb6 h => ?_)))))))⟩
 exact .t (.t (.t (.t (.t (.t (.t (.t (.t (.t (.t (.t (.t (.d (eB h))))))))))))))
 refine ⟨rfl, _, rfl, (.f ⟨rfl, _, rfl, (.f (bk h fun v7 hv8 h => (pcP (ok_s_l30Same hv8) (.f (.f (sVn h (fun hb9 h => ?_) (fun hb9 h => ?_)))))))⟩)⟩
 exact .t (.t (.t (.t (.t (.t (.t (.t (.d (eB h)))))))))
 refine ⟨rfl, (.f ⟨rfl, _, rfl, (.f (.f ⟨rfl, (.f ⟨rfl, _, rfl, (.f (.f (.f (sN h (fun hb10 h => ?_) (fun hb10 h => ?_)))))⟩)⟩))⟩)⟩
 exact .d (eB h)
 obtain ⟨o11, ho12, hk13⟩ := bd h
 replace h := ho12
 refine .cut (fun σ η => .inl () = o11 ∧ σ = [] ∧ η = []) ?_ ?_
 refine .d ?_
 refine le (m_s_CheckThread_L2.partial_correctness a0 a1 (motive := fun y14 o40 => o11 = o40 → LoopAt _ _ [(2, .optr 0 0 0 0), (3, .optr 1 0 0 0), (5, .int .i64 y14)] [.row 0 6 1 33 (fun _ => a0.lit), .row 0 6 1 33 (fun _ => a1.lit)]) ?_ 0 o11 h rfl) (tk [0, 1] ⟨.p, .p, .i, ⟨⟩⟩ ⟨(nbp rfl), (nbp rfl), ⟨⟩⟩)
 intro F16 ih15 y14 o40 h hr41
 subst hr41
 refine LoopAt.round (.d (.d ⟨rfl, ⟨rfl, _, rfl, (sD h (fun hb17 h => ?_) (fun hb17 h => ?_))⟩⟩))
 refine .d (.d ⟨rfl, ⟨rfl, _, rfl, (bk h fun x18 hx19 h => ⟨idx_bd hx19, _, (idx_row hx19).trans (TIns.cells_eq x18), ⟨rfl, _, fun _ => [.int .i64 x18.fOp, .int .i64 x18.fA, .int .i64 x18.fB, .str x18.fS, .str x18.fT], rfl, one_set rfl, (.d (.d ⟨rfl, ⟨rfl, _, rfl, ⟨rfl, ⟨rfl, _, rfl, (bk h fun x20 hx21 h => ⟨idx_bd hx21, _, (idx_row hx21).trans (TIns.cells_eq x20), ?_⟩)⟩⟩⟩⟩))⟩⟩)⟩⟩)
 refine sN h (fun hb22 h => ?_) (fun hb22 h => ?_)
 refine .d ?_
 obtain rfl := si h
 replace h := hk13
 exact eB h
 refine .d (.d ⟨rfl, ⟨rfl, _, rfl, (bk h fun v23 hv24 h => (pcP (ok_s_HasTarget hv24) (sV h (fun hb25 h => ?_) (fun hb25 h => ?_))))⟩⟩)
 refine .d (.float [(0, true), (1, true), (2, true), (3, true), (4, true), (5, true), (6, true), (7, true), (8, true), (9, true), (10, false), (11, true), (12, true), (13, true), (14, true), (15, true)] (by kernel_rfl) ?_)
 refine ⟨rfl, ⟨rfl, _, rfl, ⟨rfl, ⟨rfl, _, rfl, (bk h fun x26 hx27 h => ⟨idx_bd hx27, _, (idx_row hx27).trans (TIns.cells_eq x26), ⟨rfl, ⟨rfl, _, rfl, ?_⟩⟩⟩)⟩⟩⟩⟩
 obtain ⟨⟨v28, v29⟩, hv30, h⟩ := bd h
 refine pcP (ok_s_l31Walk hv30) (.d (.d (sVn h (fun hb31 h => ?_) (fun hb31 h => ?_))))
 refine .d ?_
 obtain rfl := si h
 replace h := hk13
 exact eB h
 refine ⟨rfl, ⟨rfl, _, rfl, (bk h fun x32 hx33 h => ⟨idx_bd hx33, _, (idx_row hx33).trans (TIns.cells_eq x32), ⟨rfl, ⟨rfl, _, fun _ => [.int .i64 x18.fOp, .int .i64 x32.fA, .int .i64 x18.fB, .str x18.fS, .str x18.fT], rfl, one_set rfl, (.d ⟨rfl, _, rfl, ⟨rfl, ⟨rfl, _, rfl, (bk h fun x34 hx35 h => ⟨idx_bd hx35, _, (idx_row hx35).trans (TIns.cells_eq x34), ⟨_, TIns.eq_cells (TIns.mk x18.fOp x32.fA x18.fB x18.fS x18.fT) x34, (sDn h (fun hb36 h => ?_) (fun hb36 h => ?_))⟩⟩)⟩⟩⟩)⟩⟩⟩)⟩⟩
 refine .d ?_
 obtain rfl := si h
 replace h := hk13
 exact eB h
 exact lg (ih15 _ _ h rfl) (tk [0, 1] ⟨.p, .p, .i, ⟨⟩⟩ ⟨(nbp rfl), (nbp rfl), ⟨⟩⟩)
 refine .d ⟨rfl, _, rfl, ⟨rfl, ⟨rfl, _, rfl, (bk h fun x37 hx38 h => ⟨idx_bd hx38, _, (idx_row hx38).trans (TIns.cells_eq x37), ⟨_, TIns.eq_cells x18 x37, (sDn h (fun hb39 h => ?_) (fun hb39 h => ?_))⟩⟩)⟩⟩⟩
 refine .d ?_
 obtain rfl := si h
 replace h := hk13
 exact eB h
 exact lg (ih15 _ _ h rfl) (tk [0, 1] ⟨.p, .p, .i, ⟨⟩⟩ ⟨(nbp rfl), (nbp rfl), ⟨⟩⟩)
 exact ct ⟨si h, rfl, rfl⟩ (tk [] ⟨⟩ ⟨⟩)
 rintro _ _ ⟨rfl, rfl, rfl⟩
 replace h := hk13
 exact .d (eB h)
end Go.Am
