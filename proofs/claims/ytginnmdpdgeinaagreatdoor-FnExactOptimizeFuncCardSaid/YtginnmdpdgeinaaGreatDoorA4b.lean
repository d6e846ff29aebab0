/- Models of Go functions, and their walks. (Printed by tools/mg.py.) -/
import Derived.Test.YtginnmdpdgeinaaGreatDoorH1
set_option linter.unusedVariables false
set_option linter.unusedSimpArgs false
set_option maxRecDepth 100000
namespace Go.Am
open Go Go.RowKit Go.Proofs
def m_s_HeightsOf_L2 (a0 : TFunc) (l5 : List Int) (y6 : Int) : Option (((List Int)) ⊕ ((List Int) × Bool)) :=
 (if y6 < (a0.fCode.length : Int) then
 idx a0.fCode y6 >>= fun x10 =>
 m_s_IsIns x10 (a0.fSlots.length : Int) (a0.fCode.length : Int) >>= fun v12 =>
 (if v12 = true then
 lapp 8 l5 ([(-1)] : List Int) >>= fun l15 =>
 m_s_HeightsOf_L2 a0 l15 (W64 (y6 + 1))
 else
 some (.inr (([] : List Int), false)))
 else
 some (.inl l5))
partial_fixpoint
def m_s_HeightsOf_L10 (a0 : TFunc) (l34 : List Int) (b35 : Bool) (y36 : Int) : Option (((List Int) × Bool) ⊕ (((List Int)) ⊕ ((List Int) × Bool))) :=
 (if y36 < (l34.length : Int) then
 idx a0.fCode y36 >>= fun x40 =>
 idx l34 y36 >>= fun x42 =>
 (if x42 < 0 then
 m_s_HeightsOf_L10 a0 l34 b35 (W64 (y36 + 1))
 else
 idx l34 y36 >>= fun x45 =>
 m_s_InsNeed x40 >>= fun v47 =>
 (if v47 > x45 then
 some (.inr (.inr (([] : List Int), false)))
 else
 (
 m_s_IsFinal x40.fOp >>= fun v56 =>
 (if v56 = true then
 some (l34, false, true)
 else
 idx l34 y36 >>= fun x59 =>
 m_s_InsChange x40 >>= fun v61 =>
 m_s_l27Give l34 (W64 (y36 + 1)) (W64 (x59 + v61)) >>= fun (v63, v64, v65) =>
 some (v65, v63, v64))
 : Option ((List Int) × Bool × Bool)) >>= fun (l50, b51, b52) =>
 (
 m_s_HasTarget x40.fOp >>= fun v74 =>
 (if v74 = true then
 idx l50 y36 >>= fun x77 =>
 m_s_TargetChange x40.fOp >>= fun v79 =>
 m_s_l27Give l50 x40.fA (W64 (x77 + v79)) >>= fun (v81, v82, v83) =>
 some (v83, v81, v82)
 else
 some (l50, false, true))
 : Option ((List Int) × Bool × Bool)) >>= fun (l68, b69, b70) =>
 (if b52 = true then
 (if b70 = true then
 (if b35 = true then
 m_s_HeightsOf_L10 a0 l68 true (W64 (y36 + 1))
 else
 (if b51 = true then
 m_s_HeightsOf_L10 a0 l68 true (W64 (y36 + 1))
 else
 m_s_HeightsOf_L10 a0 l68 b69 (W64 (y36 + 1))))
 else
 some (.inr (.inr (([] : List Int), false))))
 else
 some (.inr (.inr (([] : List Int), false))))))
 else
 some (.inl (l34, b35)))
partial_fixpoint
def m_s_HeightsOf_L9 (a0 : TFunc) (l26 : List Int) (b27 : Bool) : Option (((List Int)) ⊕ ((List Int) × Bool)) :=
 (if b27 = true then
 ((
 m_s_HeightsOf_L10 a0 l26 false 0
 : Option (((List Int) × Bool) ⊕ (((List Int)) ⊕ ((List Int) × Bool)))) >>= fun o31 => match o31 with
 | .inr r => some r
 | .inl (l26, b27) => m_s_HeightsOf_L9 a0 l26 b27)
 else
 some (.inl l26))
partial_fixpoint
def m_s_HeightsOf (a0 : TFunc) : Option ((List Int) × Bool) :=
 ((
 m_s_HeightsOf_L2 a0 ([] : List Int) 0
 : Option (((List Int)) ⊕ ((List Int) × Bool))) >>= fun o2 => match o2 with
 | .inr r => some r
 | .inl l1 =>
 (if (l1.length : Int) = 0 then
 some (([] : List Int), false)
 else
 idx l1 0 >>= fun x20 =>
 ((
 m_s_HeightsOf_L9 a0 (l1.set ((0 : Int).toNat) 0) true
 : Option (((List Int)) ⊕ ((List Int) × Bool))) >>= fun o23 => match o23 with
 | .inr r => some r
 | .inl l22 =>
 some (l22, true)
 ))
 )
theorem ok_s_HeightsOf {a0 : TFunc} {r : (List Int) × Bool} (h : m_s_HeightsOf a0 = some r) : ACall Tryz.prog 54 [.agg a0.lit] [] (fun res h => res = .tup [sl 1 cI r.1, .bool r.2] ∧ h = []) := by
 refine vc1 Tryz.func54 ?_
 unfold m_s_HeightsOf at h
 refine .d (.d ⟨row cI ([] : List Int), row_lit cI ([] : List Int) rfl (cll_refl rfl), ?_⟩)
 obtain ⟨o2, ho3, hk4⟩ := bd h
 replace h := ho3
 refine .cut (fun σ η => ∃ l1, .inl l1 = o2 ∧ σ = [(1, .optr 0 0 0 0), (4, .own 1 0 0 l1.length)] ∧ η = [.row 0 6 1 32 (fun _ => a0.lit), .row 0 1 l1.length 3 (row cI l1)]) ?_ ?_
 refine .d ?_
 refine le (m_s_HeightsOf_L2.partial_correctness a0 (motive := fun l5 y6 o17 => o2 = o17 → LoopAt _ _ [(1, .optr 0 0 0 0), (4, .own 1 0 0 l5.length), (5, .int .i64 y6)] [.row 0 6 1 32 (fun _ => a0.lit), .row 0 1 l5.length 3 (row cI l5)]) ?_ ([] : List Int) 0 o2 h rfl) (tk [0, 1] ⟨.p, .o, .i, ⟨⟩⟩ ⟨(nbp rfl), nw, ⟨⟩⟩)
 intro F8 ih7 l5 y6 o17 h hr18
 subst hr18
 refine LoopAt.round (.d (.d ⟨rfl, ⟨rfl, _, rfl, (sD h (fun hb9 h => ?_) (fun hb9 h => ?_))⟩⟩))
 refine .d (.d (.d (.float [(0, true), (1, true), (2, true), (3, true), (4, true), (5, true), (6, true), (7, true), (8, true), (9, true), (10, true), (11, false), (12, true)] (by kernel_rfl) ?_)))
 refine ⟨rfl, ⟨rfl, _, rfl, (bk h fun x10 hx11 h => ⟨idx_bd hx11, _, (idx_row hx11).trans (TIns.cells_eq x10), ⟨rfl, ⟨rfl, _, rfl, ⟨rfl, ⟨rfl, _, rfl, (bk h fun v12 hv13 h => (pcP (ok_s_IsIns hv13) (sVn h (fun hb14 h => ?_) (fun hb14 h => ?_))))⟩⟩⟩⟩⟩)⟩⟩
 refine .d ⟨row cI ([] : List Int), row_lit cI ([] : List Int) rfl (cll_refl rfl), ?_⟩
 obtain rfl := si h
 replace h := hk4
 obtain rfl := si h
 exact en [] ⟨rfl, rfl⟩ (.tup_l ⟨(.rx rfl), .b, ⟨⟩⟩) ⟨⟩
 exact ⟨row cI ([(-1)] : List Int), row_lit cI ([(-1)] : List Int) rfl (cll_refl rfl), (bk h fun l15 hx16 h => ⟨rfl, rfl, lapp_bd hx16, l15.length, row cI l15, lapp_len hx16, lapp_row hx16 shows_all (src_own shows_all), (lg (ih7 _ _ _ h rfl) (tk [0, 1] ⟨.p, .o, .i, ⟨⟩⟩ ⟨(nbp rfl), nw, ⟨⟩⟩))⟩)⟩
 exact ct ⟨_, si h, rfl, rfl⟩ (tk [0, 1] ⟨.p, .o, ⟨⟩⟩ ⟨(nbp rfl), nw, ⟨⟩⟩)
 rintro _ _ ⟨l1, rfl, rfl, rfl⟩
 replace h := hk4
 refine .d (.d ⟨rfl, (sE h (fun hb19 h => ?_) (fun hb19 h => ?_))⟩)
 refine .d ⟨row cI ([] : List Int), row_lit cI ([] : List Int) rfl (cll_refl rfl), ?_⟩
 obtain rfl := si h
 exact en [] ⟨rfl, rfl⟩ (.tup_l ⟨(.rx rfl), .b, ⟨⟩⟩) ⟨⟩
 refine .d (bk h fun x20 hx21 h => ⟨rfl, idx_bd hx21, _, Nat.zero_add _, ⟨rfl, _, row cI (l1.set ((0 : Int).toNat) 0), ((idx_row hx21).trans rfl), row_set (idx_lt hx21) rfl ⟨.same _, trivial⟩, (.d ?_)⟩⟩)
 obtain ⟨o23, ho24, hk25⟩ := bd h
 replace h := ho24
 refine .cut (fun σ η => ∃ l22, .inl l22 = o23 ∧ σ = [(4, .own 0 0 0 l22.length)] ∧ η = [.row 0 1 l22.length 3 (row cI l22)]) ?_ ?_
 refine le (m_s_HeightsOf_L9.partial_correctness a0 (motive := fun l26 b27 o92 => o23 = o92 → LoopAt _ _ [(1, .optr 0 0 0 0), (4, .own 1 0 0 l26.length), (6, .bool b27)] [.row 0 6 1 32 (fun _ => a0.lit), .row 0 1 l26.length 3 (row cI l26)]) ?_ (l1.set ((0 : Int).toNat) 0) true o23 h rfl) (tk [0, 1] ⟨.p, (.ox ln), .b, ⟨⟩⟩ ⟨(nbp rfl), (nwx rfl ln), ⟨⟩⟩)
 intro F29 ih28 l26 b27 o92 h hr93
 subst hr93
 refine LoopAt.round (.d (.d (sV h (fun hb30 h => ?_) (fun hb30 h => ?_))))
 refine .d (.d ?_)
 obtain ⟨o31, ho32, hk33⟩ := bd h
 replace h := ho32
 refine le (m_s_HeightsOf_L10.partial_correctness a0 (motive := fun l34 b35 y36 o90 => o31 = o90 → LoopAt _ _ [(1, .optr 0 0 0 0), (4, .own 1 0 0 l34.length), (6, .bool b35), (7, .int .i64 y36)] [.row 0 6 1 32 (fun _ => a0.lit), .row 0 1 l34.length 3 (row cI l34)]) ?_ l26 false 0 o31 h rfl) (tk [0, 1] ⟨.p, .o, .b, .i, ⟨⟩⟩ ⟨(nbp rfl), nw, ⟨⟩⟩)
 intro F38 ih37 l34 b35 y36 o90 h hr91
 subst hr91
 refine LoopAt.round (.d (.d ⟨rfl, (sD h (fun hb39 h => ?_) (fun hb39 h => ?_))⟩))
 refine .d (.d ⟨rfl, ⟨rfl, _, rfl, (bk h fun x40 hx41 h => ⟨idx_bd hx41, _, (idx_row hx41).trans (TIns.cells_eq x40), ⟨rfl, _, fun _ => [.int .i64 x40.fOp, .int .i64 x40.fA, .int .i64 x40.fB, .str x40.fS, .str x40.fT], rfl, one_set rfl, (.d (.d (bk h fun x42 hx43 h => ⟨rfl, idx_bd hx43, _, Nat.zero_add _, ⟨rfl, _, ((idx_row hx43).trans rfl), (sD h (fun hb44 h => ?_) (fun hb44 h => ?_))⟩⟩)))⟩⟩)⟩⟩)
 exact lg (ih37 _ _ _ _ h rfl) (tk [0, 1] ⟨.p, .o, .b, .i, ⟨⟩⟩ ⟨(nbp rfl), nw, ⟨⟩⟩)
 refine .d (.d (.float [(0, true), (2, true), (3, true), (4, true), (5, true), (1, false), (6, true)] (by kernel_rfl) ?_))
 refine ⟨rfl, _, rfl, (bk h fun x45 hx46 h => ⟨rfl, idx_bd hx46, _, Nat.zero_add _, ⟨rfl, _, ((idx_row hx46).trans rfl), (bk h fun v47 hv48 h => (pcP (ok_s_InsNeed hv48) ⟨rfl, ⟨rfl, (sD h (fun hb49 h => ?_) (fun hb49 h => ?_))⟩⟩))⟩⟩)⟩
 refine .d ⟨row cI ([] : List Int), row_lit cI ([] : List Int) rfl (cll_refl rfl), ?_⟩
 obtain rfl := si h
 replace h := hk33
 obtain rfl := si h
 replace h := hk25
 obtain rfl := si h
 exact en [] ⟨rfl, rfl⟩ (.tup_l ⟨(.rx rfl), .b, ⟨⟩⟩) ⟨⟩
 refine .d ?_
 obtain ⟨o53, ho54, hk55⟩ := bd h
 replace h := ho54
 refine .cut (fun σ η => ∃ l50, ∃ b51, ∃ b52, (l50, b51, b52) = o53 ∧ σ = [(1, .optr 0 0 0 0), (4, .own 1 0 0 l50.length), (6, .bool b35), (7, .int .i64 y36), (8, .optr 2 0 0 0), (9, .bool b51), (10, .bool b52)] ∧ η = [.row 0 6 1 32 (fun _ => a0.lit), .row 0 1 l50.length 3 (row cI l50), .row 0 5 1 46 (fun _ => x40.lit)]) ?_ ?_
 refine .d ⟨rfl, ⟨rfl, _, rfl, (bk h fun v56 hv57 h => (pcP (ok_s_IsFinal hv57) (sVn h (fun hb58 h => ?_) (fun hb58 h => ?_))))⟩⟩
 refine .float [(0, true), (1, true), (2, true), (3, true), (4, true), (5, true), (6, true), (7, true), (8, false), (9, true), (10, false), (11, true), (12, true), (13, true), (14, true), (15, true)] (by kernel_rfl) ?_
 refine bk h fun x59 hx60 h => ⟨rfl, idx_bd hx60, _, Nat.zero_add _, ⟨rfl, _, ((idx_row hx60).trans rfl), ⟨rfl, _, rfl, (bk h fun v61 hv62 h => (pcP (ok_s_InsChange hv62) ⟨rfl, ⟨rfl, ?_⟩⟩))⟩⟩⟩
 obtain ⟨⟨v63, v64, v65⟩, hv66, h⟩ := bd h
 have hl67 := l27Give_len hv66
 exact pcO (ok_s_l27Give (g1000 := 0) hv66) [1] ⟨ov, ⟨⟩⟩ (.tup [.bool v63, .bool v64]) [.row 0 6 1 32 (fun _ => a0.lit), .row 0 1 l34.length 3 (row cI v65), .row 0 5 1 46 (fun _ => x40.lit)] (ct ⟨_, _, _, si h, rfl, rfl⟩ (tk [0, 1, 2] ⟨.p, (.ox (by first | rfl | simp [hl67])), .b, .i, .p, .b, .b, ⟨⟩⟩ ⟨(nbp rfl), (nwx rfl (by first | rfl | simp [hl67])), (nbp rfl), ⟨⟩⟩))
 exact ct ⟨_, _, _, si h, rfl, rfl⟩ (tk [0, 1, 2] ⟨.p, .o, .b, .i, .p, .b, .b, ⟨⟩⟩ ⟨(nbp rfl), nw, (nbp rfl), ⟨⟩⟩)
 rintro _ _ ⟨l50, b51, b52, rfl, rfl, rfl⟩
 replace h := hk55
 refine .d ?_
 obtain ⟨o71, ho72, hk73⟩ := bd h
 replace h := ho72
 refine .cut (fun σ η => ∃ l68, ∃ b69, ∃ b70, (l68, b69, b70) = o71 ∧ σ = [(1, .optr 0 0 0 0), (4, .own 1 0 0 l68.length), (6, .bool b35), (7, .int .i64 y36), (9, .bool b51), (10, .bool b52), (11, .bool b69), (12, .bool b70)] ∧ η = [.row 0 6 1 32 (fun _ => a0.lit), .row 0 1 l68.length 3 (row cI l68)]) ?_ ?_
 refine .d ⟨rfl, ⟨rfl, _, rfl, (bk h fun v74 hv75 h => (pcP (ok_s_HasTarget hv75) (sV h (fun hb76 h => ?_) (fun hb76 h => ?_))))⟩⟩
 refine .float [(0, true), (1, true), (2, true), (3, true), (4, true), (5, true), (6, true), (7, true), (8, true), (9, false), (10, true), (11, false), (12, true), (13, true), (14, true), (15, true), (16, true)] (by kernel_rfl) ?_
 refine ⟨rfl, ⟨rfl, _, rfl, (bk h fun x77 hx78 h => ⟨rfl, idx_bd hx78, _, Nat.zero_add _, ⟨rfl, _, ((idx_row hx78).trans rfl), ⟨rfl, ⟨rfl, _, rfl, (bk h fun v79 hv80 h => (pcP (ok_s_TargetChange hv80) ⟨rfl, ⟨rfl, ⟨rfl, ⟨rfl, ?_⟩⟩⟩⟩))⟩⟩⟩⟩)⟩⟩
 obtain ⟨⟨v81, v82, v83⟩, hv84, h⟩ := bd h
 have hl85 := l27Give_len hv84
 exact pcO (ok_s_l27Give (g1000 := 0) hv84) [1] ⟨ov, ⟨⟩⟩ (.tup [.bool v81, .bool v82]) [.row 0 6 1 32 (fun _ => a0.lit), .row 0 1 l50.length 3 (row cI v83), .row 0 5 1 46 (fun _ => x40.lit)] (ct ⟨_, _, _, si h, rfl, rfl⟩ (tk [0, 1] ⟨.p, (.ox (by first | rfl | simp [hl85])), .b, .i, .b, .b, .b, .b, ⟨⟩⟩ ⟨(nbp rfl), (nwx rfl (by first | rfl | simp [hl85])), ⟨⟩⟩))
 exact ct ⟨_, _, _, si h, rfl, rfl⟩ (tk [0, 1] ⟨.p, .o, .b, .i, .b, .b, .b, .b, ⟨⟩⟩ ⟨(nbp rfl), nw, ⟨⟩⟩)
 rintro _ _ ⟨l68, b69, b70, rfl, rfl, rfl⟩
 replace h := hk73
 refine .d (.d (sVn h (fun hb86 h => ?_) (fun hb86 h => ?_)))
 refine .t (.t (.t (.d ⟨row cI ([] : List Int), row_lit cI ([] : List Int) rfl (cll_refl rfl), ?_⟩)))
 obtain rfl := si h
 replace h := hk33
 obtain rfl := si h
 replace h := hk25
 obtain rfl := si h
 exact en [] ⟨rfl, rfl⟩ (.tup_l ⟨(.rx rfl), .b, ⟨⟩⟩) ⟨⟩
 refine .f (.f (sVn h (fun hb87 h => ?_) (fun hb87 h => ?_)))
 refine .d ⟨row cI ([] : List Int), row_lit cI ([] : List Int) rfl (cll_refl rfl), ?_⟩
 obtain rfl := si h
 replace h := hk33
 obtain rfl := si h
 replace h := hk25
 obtain rfl := si h
 exact en [] ⟨rfl, rfl⟩ (.tup_l ⟨(.rx rfl), .b, ⟨⟩⟩) ⟨⟩
 refine sV h (fun hb88 h => ?_) (fun hb88 h => ?_)
 exact .t (.t (.t (lg (ih37 _ _ _ _ h rfl) (tk [0, 1] ⟨.p, .o, .b, .i, ⟨⟩⟩ ⟨(nbp rfl), nw, ⟨⟩⟩))))
 refine .f (sV h (fun hb89 h => ?_) (fun hb89 h => ?_))
 exact .t (lg (ih37 _ _ _ _ h rfl) (tk [0, 1] ⟨.p, .o, .b, .i, ⟨⟩⟩ ⟨(nbp rfl), nw, ⟨⟩⟩))
 exact .f (lg (ih37 _ _ _ _ h rfl) (tk [0, 1] ⟨.p, .o, .b, .i, ⟨⟩⟩ ⟨(nbp rfl), nw, ⟨⟩⟩))
 obtain rfl := si h
 replace h := hk33
 exact lg (ih28 _ _ _ h rfl) (tk [0, 1] ⟨.p, .o, .b, ⟨⟩⟩ ⟨(nbp rfl), nw, ⟨⟩⟩)
 exact ct ⟨_, si h, rfl, rfl⟩ (tk [1] ⟨.o, ⟨⟩⟩ ⟨nw, ⟨⟩⟩)
 rintro _ _ ⟨l22, rfl, rfl, rfl⟩
 replace h := hk25
 refine .d ?_
 obtain rfl := si h
 exact en [] ⟨rfl, rfl⟩ (.tup_l ⟨.r, .b, ⟨⟩⟩) ⟨⟩
end Go.Am
