/- Models of Go functions, and their walks. (Printed by tools/mg.py.) -/
import Derived.Test.YtnehfdofoemnfaaH1
set_option linter.unusedVariables false
set_option linter.unusedSimpArgs false
set_option maxRecDepth 100000
namespace Go.Am
open Go Go.RowKit Go.Proofs

def m_s_HeightsOf_L2 (a0 : TFunc) (l5 : List Int) (y6 : Int) : Option (((List Int)) ⊕ ((List Int) × Bool)) :=
 (if y6 < (a0.fCode.length : Int) then
 idx a0.fCode y6 >>= fun x10 =>
 m_s_IsIns x10 (a0.fSlots.length : Int) (a0.fCode.length : Int) >>= fun v12 =>
 (if v12 = true then
 lapp 8 l5 ([(-1)] : List Int) >>= fun l15 =>
 m_s_HeightsOf_L2 a0 l15 (W64 (y6 + 1))
 else
 some (.inr (([] : List Int), false)))
 else
 some (.inl l5))
partial_fixpoint
def m_s_HeightsOf_L10 (a0 : TFunc) (l35 : List Int) (b36 : Bool) (y37 : Int) : Option (((List Int) × Bool) ⊕ (((List Int)) ⊕ ((List Int) × Bool))) :=
 (if y37 < (l35.length : Int) then
 idx a0.fCode y37 >>= fun x41 =>
 idx l35 y37 >>= fun x43 =>
 (if x43 < 0 then
 m_s_HeightsOf_L10 a0 l35 b36 (W64 (y37 + 1))
 else
 idx l35 y37 >>= fun x46 =>
 m_s_InsNeed x41 >>= fun v48 =>
 (if v48 > x46 then
 some (.inr (.inr (([] : List Int), false)))
 else
 (
 m_s_IsFinal x41.fOp >>= fun v57 =>
 (if v57 = true then
 some (l35, false, true)
 else
 idx l35 y37 >>= fun x60 =>
 m_s_InsChange x41 >>= fun v62 =>
 m_s_l27Give l35 (W64 (y37 + 1)) (W64 (x60 + v62)) >>= fun (v64, v65, v66) =>
 some (v66, v64, v65))
 : Option ((List Int) × Bool × Bool)) >>= fun (l51, b52, b53) =>
 (
 m_s_HasTarget x41.fOp >>= fun v76 =>
 (if v76 = true then
 idx l51 y37 >>= fun x79 =>
 m_s_TargetChange x41.fOp >>= fun v81 =>
 m_s_l27Give l51 x41.fA (W64 (x79 + v81)) >>= fun (v83, v84, v85) =>
 some (v85, v83, v84)
 else
 some (l51, false, true))
 : Option ((List Int) × Bool × Bool)) >>= fun (l70, b71, b72) =>
 (if b53 = true then
 (if b72 = true then
 (if b36 = true then
 m_s_HeightsOf_L10 a0 l70 true (W64 (y37 + 1))
 else
 (if b52 = true then
 m_s_HeightsOf_L10 a0 l70 true (W64 (y37 + 1))
 else
 m_s_HeightsOf_L10 a0 l70 b71 (W64 (y37 + 1))))
 else
 some (.inr (.inr (([] : List Int), false))))
 else
 some (.inr (.inr (([] : List Int), false))))))
 else
 some (.inl (l35, b36)))
partial_fixpoint
def m_s_HeightsOf_L9 (a0 : TFunc) (l27 : List Int) (b28 : Bool) : Option (((List Int)) ⊕ ((List Int) × Bool)) :=
 (if b28 = true then
 ((
 m_s_HeightsOf_L10 a0 l27 false 0
 : Option (((List Int) × Bool) ⊕ (((List Int)) ⊕ ((List Int) × Bool)))) >>= fun o32 => match o32 with
 | .inr r => some r
 | .inl (l27, b28) => m_s_HeightsOf_L9 a0 l27 b28)
 else
 some (.inl l27))
partial_fixpoint
def m_s_HeightsOf (a0 : TFunc) : Option ((List Int) × Bool) :=
 ((
 m_s_HeightsOf_L2 a0 ([] : List Int) 0
 : Option (((List Int)) ⊕ ((List Int) × Bool))) >>= fun o2 => match o2 with
 | .inr r => some r
 | .inl l1 =>
 (if (l1.length : Int) = 0 then
 some (([] : List Int), false)
 else
 idx l1 0 >>= fun x21 =>
 ((
 m_s_HeightsOf_L9 a0 (l1.set ((0 : Int).toNat) 0) true
 : Option (((List Int)) ⊕ ((List Int) × Bool))) >>= fun o24 => match o24 with
 | .inr r => some r
 | .inl l23 =>
 some (l23, true)
 ))
 )
theorem ok_s_HeightsOf {a0 : TFunc} {r : (List Int) × Bool} (h : m_s_HeightsOf a0 = some r) : ACall Try.prog 29 [.agg [.str a0.fName, sl 2 TParam.cells a0.fParams, sl 2 TParam.cells a0.fUses, sl 1 cS a0.fSlots, .bool a0.fGen, sl 5 TIns.cells a0.fCode]] [] (fun res h => res = .tup [sl 1 cI r.1, .bool r.2] ∧ h = []) := by
 refine ACall.of_vc tabT_ok mixed Try.func29 rfl (by kernel_rfl) _ _ _ rfl (by kernel_rfl) ?_
 unfold m_s_HeightsOf at h
 refine .direct ?_
 refine .direct ?_
 refine ⟨row cI ([] : List Int), row_lit cI ([] : List Int) rfl (cll_refl rfl), ?_⟩
 obtain ⟨o2, ho3, hk4⟩ := bind_some h
 replace h := ho3
 refine .cut (fun σ η => ∃ l1, .inl l1 = o2 ∧ σ = [(1, .optr 0 0 0 0), (4, .own 1 0 0 l1.length)] ∧ η = [.row 0 6 1 33 (fun _ => [.str a0.fName, sl 2 TParam.cells a0.fParams, sl 2 TParam.cells a0.fUses, sl 1 cS a0.fSlots, .bool a0.fGen, sl 5 TIns.cells a0.fCode]), .row 0 1 l1.length 3 (row cI l1)]) ?_ ?_
 refine .direct ?_
 refine LoopAt.enter [(1, .optr 0 0 0 0), (4, .own 1 0 0 ([] : List Int).length), (5, .int .i64 0)] [.row 0 6 1 33 (fun _ => [.str a0.fName, sl 2 TParam.cells a0.fParams, sl 2 TParam.cells a0.fUses, sl 1 cS a0.fSlots, .bool a0.fGen, sl 5 TIns.cells a0.fCode]), .row 0 1 ([] : List Int).length 3 (row cI ([] : List Int))] ⟨[0, 1], by decide, (show 0 ≤ 2 by decide), ⟨.optr_eq rfl ⟨_, _, _, _, rfl⟩ ⟨_, _, _, _, rfl, Nat.zero_lt_one⟩ rfl rfl, .own_eq rfl ⟨_, _, _, _, rfl⟩ ⟨_, _, _, _, rfl, Nat.le_of_eq (Nat.zero_add _)⟩ rfl rfl, .int_eq rfl, trivial⟩, ⟨⟨fun h0 => absurd (show 0 < 0 from h0) (by decide), rfl, .inl rfl, rfl, fun _ _ => ⟨.str_eq rfl, .slc_eq rfl (fun _ _ => rfl), .slc_eq rfl (fun _ _ => rfl), .slc_eq rfl (fun _ _ => rfl), .bool_eq rfl, .slc_eq rfl (fun _ _ => rfl), trivial⟩⟩, ⟨fun h0 => absurd (show 1 < 0 from h0) (by decide), rfl, .inl rfl, rfl, fz_row cI_pure⟩, trivial⟩⟩ ?_
 refine m_s_HeightsOf_L2.partial_correctness a0 (motive := fun l5 y6 o18 => o2 = o18 → LoopAt _ _ [(1, .optr 0 0 0 0), (4, .own 1 0 0 l5.length), (5, .int .i64 y6)] [.row 0 6 1 33 (fun _ => [.str a0.fName, sl 2 TParam.cells a0.fParams, sl 2 TParam.cells a0.fUses, sl 1 cS a0.fSlots, .bool a0.fGen, sl 5 TIns.cells a0.fCode]), .row 0 1 l5.length 3 (row cI l5)]) ?_ ([] : List Int) 0 o2 h rfl
 intro F8 ih7 l5 y6 o18 h hr19
 subst hr19
 refine LoopAt.round ?_
 refine .direct ?_
 refine .direct ?_
 refine ⟨rfl, ?_⟩
 refine ⟨rfl, _, rfl, ?_⟩
 refine splitB.mk (fun hb9 => ?_) (fun hb9 => ?_)
 replace h := T_dec hb9 h
 refine .direct ?_
 refine .direct ?_
 refine .direct ?_
 refine .float [(0, true), (1, true), (2, true), (3, true), (4, true), (5, true), (6, true), (7, true), (8, true), (9, true), (10, true), (11, false), (12, true)] (by kernel_rfl) ?_
 refine ⟨rfl, ?_⟩
 refine ⟨rfl, _, rfl, ?_⟩
 obtain ⟨x10, hx11, h⟩ := bind_some h
 refine ⟨idx_bd hx11, _, (idx_row hx11).trans (TIns.cells_eq x10), ?_⟩
 refine ⟨rfl, ?_⟩
 refine ⟨rfl, _, rfl, ?_⟩
 refine ⟨rfl, ?_⟩
 refine ⟨rfl, _, rfl, ?_⟩
 obtain ⟨v12, hv13, h⟩ := bind_some h
 refine ⟨_, ACall.pure0 (ok_s_IsIns hv13) _ rfl (fun _ => rfl), ?_⟩
 rintro _ _ ⟨rfl, rfl⟩
 refine splitB.mk (fun hb14 => ?_) (fun hb14 => ?_)
 have hb17 := not_F hb14
 replace h := F_var hb17 h
 refine .direct ?_
 refine ⟨row cI ([] : List Int), row_lit cI ([] : List Int) rfl (cll_refl rfl), ?_⟩
 obtain rfl := Option.some.inj h
 replace h := hk4
 obtain rfl := Option.some.inj h
 exact ⟨[], .tup [sl 1 cI ([] : List Int), .bool false], [], by decide, (show 0 ≤ 0 by decide), .tup_l ⟨(fz_frz2 cI_pure (by first | decide | simp) rfl shows_all rfl), .bool_eq rfl, trivial⟩, trivial, rfl, rfl⟩
 have hb17 := not_T hb14
 replace h := T_var hb17 h
 refine ⟨row cI ([(-1)] : List Int), row_lit cI ([(-1)] : List Int) rfl (cll_refl rfl), ?_⟩
 obtain ⟨l15, hx16, h⟩ := bind_some h
 refine ⟨rfl, rfl, lapp_bd hx16, l15.length, row cI l15, lapp_len hx16, lapp_row hx16 shows_all (src_own shows_all), ?_⟩
 exact ⟨[(1, .optr 0 0 0 0), (4, .own 1 0 0 l15.length), (5, .int .i64 (W64 (y6 + 1)))], [.row 0 6 1 33 (fun _ => [.str a0.fName, sl 2 TParam.cells a0.fParams, sl 2 TParam.cells a0.fUses, sl 1 cS a0.fSlots, .bool a0.fGen, sl 5 TIns.cells a0.fCode]), .row 0 1 l15.length 3 (row cI l15)], ⟨[0, 1], by decide, (show 0 ≤ 2 by decide), ⟨.optr_eq rfl ⟨_, _, _, _, rfl⟩ ⟨_, _, _, _, rfl, Nat.zero_lt_one⟩ rfl rfl, .own_eq rfl ⟨_, _, _, _, rfl⟩ ⟨_, _, _, _, rfl, Nat.le_of_eq (Nat.zero_add _)⟩ rfl rfl, .int_eq rfl, trivial⟩, ⟨⟨fun h0 => absurd (show 0 < 0 from h0) (by decide), rfl, .inl rfl, rfl, fun _ _ => ⟨.str_eq rfl, .slc_eq rfl (fun _ _ => rfl), .slc_eq rfl (fun _ _ => rfl), .slc_eq rfl (fun _ _ => rfl), .bool_eq rfl, .slc_eq rfl (fun _ _ => rfl), trivial⟩⟩, ⟨fun h0 => absurd (show 1 < 0 from h0) (by decide), rfl, .inl rfl, rfl, fz_row cI_pure⟩, trivial⟩⟩, ih7 _ _ _ h rfl⟩
 replace h := F_dec hb9 h
 exact ⟨[(1, .optr 0 0 0 0), (4, .own 1 0 0 l5.length)], [.row 0 6 1 33 (fun _ => [.str a0.fName, sl 2 TParam.cells a0.fParams, sl 2 TParam.cells a0.fUses, sl 1 cS a0.fSlots, .bool a0.fGen, sl 5 TIns.cells a0.fCode]), .row 0 1 l5.length 3 (row cI l5)], ⟨[0, 1], by decide, (show 0 ≤ 2 by decide), ⟨.optr_eq rfl ⟨_, _, _, _, rfl⟩ ⟨_, _, _, _, rfl, Nat.zero_lt_one⟩ rfl rfl, .own_eq rfl ⟨_, _, _, _, rfl⟩ ⟨_, _, _, _, rfl, Nat.le_of_eq (Nat.zero_add _)⟩ rfl rfl, trivial⟩, ⟨⟨fun h0 => absurd (show 0 < 0 from h0) (by decide), rfl, .inl rfl, rfl, fun _ _ => ⟨.str_eq rfl, .slc_eq rfl (fun _ _ => rfl), .slc_eq rfl (fun _ _ => rfl), .slc_eq rfl (fun _ _ => rfl), .bool_eq rfl, .slc_eq rfl (fun _ _ => rfl), trivial⟩⟩, ⟨fun h0 => absurd (show 1 < 0 from h0) (by decide), rfl, .inl rfl, rfl, fz_row cI_pure⟩, trivial⟩⟩, l5, Option.some.inj h, rfl, rfl⟩
 rintro _ _ ⟨l1, rfl, rfl, rfl⟩
 replace h := hk4
 refine .direct ?_
 refine .direct ?_
 refine ⟨rfl, ?_⟩
 refine splitB.mk (fun hb20 => ?_) (fun hb20 => ?_)
 replace h := T_beq hb20 h
 refine .direct ?_
 refine ⟨row cI ([] : List Int), row_lit cI ([] : List Int) rfl (cll_refl rfl), ?_⟩
 obtain rfl := Option.some.inj h
 exact ⟨[], .tup [sl 1 cI ([] : List Int), .bool false], [], by decide, (show 0 ≤ 0 by decide), .tup_l ⟨(fz_frz2 cI_pure (by first | decide | simp) rfl shows_all rfl), .bool_eq rfl, trivial⟩, trivial, rfl, rfl⟩
 replace h := F_beq hb20 h
 refine .direct ?_
 obtain ⟨x21, hx22, h⟩ := bind_some h
 refine ⟨rfl, idx_bd hx22, _, Nat.zero_add _, ?_⟩
 refine ⟨rfl, _, row cI (l1.set ((0 : Int).toNat) 0), ((idx_row hx22).trans rfl), row_set (idx_lt hx22) rfl ⟨.same _, trivial⟩, ?_⟩
 refine .direct ?_
 obtain ⟨o24, ho25, hk26⟩ := bind_some h
 replace h := ho25
 refine .cut (fun σ η => ∃ l23, .inl l23 = o24 ∧ σ = [(4, .own 0 0 0 l23.length)] ∧ η = [.row 0 1 l23.length 3 (row cI l23)]) ?_ ?_
 refine LoopAt.enter [(1, .optr 0 0 0 0), (4, .own 1 0 0 (l1.set ((0 : Int).toNat) 0).length), (6, .bool true)] [.row 0 6 1 33 (fun _ => [.str a0.fName, sl 2 TParam.cells a0.fParams, sl 2 TParam.cells a0.fUses, sl 1 cS a0.fSlots, .bool a0.fGen, sl 5 TIns.cells a0.fCode]), .row 0 1 (l1.set ((0 : Int).toNat) 0).length 3 (row cI (l1.set ((0 : Int).toNat) 0))] ⟨[0, 1], by decide, (show 0 ≤ 2 by decide), ⟨.optr_eq rfl ⟨_, _, _, _, rfl⟩ ⟨_, _, _, _, rfl, Nat.zero_lt_one⟩ rfl rfl, .own_eq rfl ⟨_, _, _, _, rfl⟩ ⟨_, _, _, _, rfl, Nat.le_of_eq (Nat.zero_add _)⟩ rfl (by simp), .bool_eq rfl, trivial⟩, ⟨⟨fun h0 => absurd (show 0 < 0 from h0) (by decide), rfl, .inl rfl, rfl, fun _ _ => ⟨.str_eq rfl, .slc_eq rfl (fun _ _ => rfl), .slc_eq rfl (fun _ _ => rfl), .slc_eq rfl (fun _ _ => rfl), .bool_eq rfl, .slc_eq rfl (fun _ _ => rfl), trivial⟩⟩, ⟨fun h0 => absurd (show 1 < 0 from h0) (by decide), rfl, .inl (by simp), rfl, fz_row cI_pure⟩, trivial⟩⟩ ?_
 refine m_s_HeightsOf_L9.partial_correctness a0 (motive := fun l27 b28 o96 => o24 = o96 → LoopAt _ _ [(1, .optr 0 0 0 0), (4, .own 1 0 0 l27.length), (6, .bool b28)] [.row 0 6 1 33 (fun _ => [.str a0.fName, sl 2 TParam.cells a0.fParams, sl 2 TParam.cells a0.fUses, sl 1 cS a0.fSlots, .bool a0.fGen, sl 5 TIns.cells a0.fCode]), .row 0 1 l27.length 3 (row cI l27)]) ?_ (l1.set ((0 : Int).toNat) 0) true o24 h rfl
 intro F30 ih29 l27 b28 o96 h hr97
 subst hr97
 refine LoopAt.round ?_
 refine .direct ?_
 refine .direct ?_
 refine splitB.mk (fun hb31 => ?_) (fun hb31 => ?_)
 replace h := T_var hb31 h
 refine .direct ?_
 refine .direct ?_
 obtain ⟨o32, ho33, hk34⟩ := bind_some h
 replace h := ho33
 refine LoopAt.enter [(1, .optr 0 0 0 0), (4, .own 1 0 0 l27.length), (6, .bool false), (7, .int .i64 0)] [.row 0 6 1 33 (fun _ => [.str a0.fName, sl 2 TParam.cells a0.fParams, sl 2 TParam.cells a0.fUses, sl 1 cS a0.fSlots, .bool a0.fGen, sl 5 TIns.cells a0.fCode]), .row 0 1 l27.length 3 (row cI l27)] ⟨[0, 1], by decide, (show 0 ≤ 2 by decide), ⟨.optr_eq rfl ⟨_, _, _, _, rfl⟩ ⟨_, _, _, _, rfl, Nat.zero_lt_one⟩ rfl rfl, .own_eq rfl ⟨_, _, _, _, rfl⟩ ⟨_, _, _, _, rfl, Nat.le_of_eq (Nat.zero_add _)⟩ rfl rfl, .bool_eq rfl, .int_eq rfl, trivial⟩, ⟨⟨fun h0 => absurd (show 0 < 0 from h0) (by decide), rfl, .inl rfl, rfl, fun _ _ => ⟨.str_eq rfl, .slc_eq rfl (fun _ _ => rfl), .slc_eq rfl (fun _ _ => rfl), .slc_eq rfl (fun _ _ => rfl), .bool_eq rfl, .slc_eq rfl (fun _ _ => rfl), trivial⟩⟩, ⟨fun h0 => absurd (show 1 < 0 from h0) (by decide), rfl, .inl rfl, rfl, fz_row cI_pure⟩, trivial⟩⟩ ?_
 refine m_s_HeightsOf_L10.partial_correctness a0 (motive := fun l35 b36 y37 o94 => o32 = o94 → LoopAt _ _ [(1, .optr 0 0 0 0), (4, .own 1 0 0 l35.length), (6, .bool b36), (7, .int .i64 y37)] [.row 0 6 1 33 (fun _ => [.str a0.fName, sl 2 TParam.cells a0.fParams, sl 2 TParam.cells a0.fUses, sl 1 cS a0.fSlots, .bool a0.fGen, sl 5 TIns.cells a0.fCode]), .row 0 1 l35.length 3 (row cI l35)]) ?_ l27 false 0 o32 h rfl
 intro F39 ih38 l35 b36 y37 o94 h hr95
 subst hr95
 refine LoopAt.round ?_
 refine .direct ?_
 refine .direct ?_
 refine ⟨rfl, ?_⟩
 refine splitB.mk (fun hb40 => ?_) (fun hb40 => ?_)
 replace h := T_dec hb40 h
 refine .direct ?_
 refine .direct ?_
 refine ⟨rfl, ?_⟩
 refine ⟨rfl, _, rfl, ?_⟩
 obtain ⟨x41, hx42, h⟩ := bind_some h
 refine ⟨idx_bd hx42, _, (idx_row hx42).trans (TIns.cells_eq x41), ?_⟩
 refine ⟨rfl, _, fun _ => [.int .i64 x41.fOp, .int .i64 x41.fA, .int .i64 x41.fB, .str x41.fS, .str x41.fT], rfl, one_set rfl, ?_⟩
 refine .direct ?_
 refine .direct ?_
 obtain ⟨x43, hx44, h⟩ := bind_some h
 refine ⟨rfl, idx_bd hx44, _, Nat.zero_add _, ?_⟩
 refine ⟨rfl, _, ((idx_row hx44).trans rfl), ?_⟩
 refine splitB.mk (fun hb45 => ?_) (fun hb45 => ?_)
 replace h := T_dec hb45 h
 exact ⟨[(1, .optr 0 0 0 0), (4, .own 1 0 0 l35.length), (6, .bool b36), (7, .int .i64 (W64 (y37 + 1)))], [.row 0 6 1 33 (fun _ => [.str a0.fName, sl 2 TParam.cells a0.fParams, sl 2 TParam.cells a0.fUses, sl 1 cS a0.fSlots, .bool a0.fGen, sl 5 TIns.cells a0.fCode]), .row 0 1 l35.length 3 (row cI l35)], ⟨[0, 1], by decide, (show 0 ≤ 2 by decide), ⟨.optr_eq rfl ⟨_, _, _, _, rfl⟩ ⟨_, _, _, _, rfl, Nat.zero_lt_one⟩ rfl rfl, .own_eq rfl ⟨_, _, _, _, rfl⟩ ⟨_, _, _, _, rfl, Nat.le_of_eq (Nat.zero_add _)⟩ rfl rfl, .bool_eq rfl, .int_eq rfl, trivial⟩, ⟨⟨fun h0 => absurd (show 0 < 0 from h0) (by decide), rfl, .inl rfl, rfl, fun _ _ => ⟨.str_eq rfl, .slc_eq rfl (fun _ _ => rfl), .slc_eq rfl (fun _ _ => rfl), .slc_eq rfl (fun _ _ => rfl), .bool_eq rfl, .slc_eq rfl (fun _ _ => rfl), trivial⟩⟩, ⟨fun h0 => absurd (show 1 < 0 from h0) (by decide), rfl, .inl rfl, rfl, fz_row cI_pure⟩, trivial⟩⟩, ih38 _ _ _ _ h rfl⟩
 replace h := F_dec hb45 h
 refine .direct ?_
 refine .direct ?_
 refine .float [(0, true), (2, true), (3, true), (4, true), (5, true), (1, false), (6, true)] (by kernel_rfl) ?_
 refine ⟨rfl, _, rfl, ?_⟩
 obtain ⟨x46, hx47, h⟩ := bind_some h
 refine ⟨rfl, idx_bd hx47, _, Nat.zero_add _, ?_⟩
 refine ⟨rfl, _, ((idx_row hx47).trans rfl), ?_⟩
 obtain ⟨v48, hv49, h⟩ := bind_some h
 refine ⟨_, ACall.pure0 (ok_s_InsNeed hv49) _ rfl (fun _ => rfl), ?_⟩
 rintro _ _ ⟨rfl, rfl⟩
 refine ⟨rfl, ?_⟩
 refine ⟨rfl, ?_⟩
 refine splitB.mk (fun hb50 => ?_) (fun hb50 => ?_)
 replace h := T_dec hb50 h
 refine .direct ?_
 refine ⟨row cI ([] : List Int), row_lit cI ([] : List Int) rfl (cll_refl rfl), ?_⟩
 obtain rfl := Option.some.inj h
 replace h := hk34
 obtain rfl := Option.some.inj h
 replace h := hk26
 obtain rfl := Option.some.inj h
 exact ⟨[], .tup [sl 1 cI ([] : List Int), .bool false], [], by decide, (show 0 ≤ 0 by decide), .tup_l ⟨(fz_frz2 cI_pure (by first | decide | simp) rfl shows_all rfl), .bool_eq rfl, trivial⟩, trivial, rfl, rfl⟩
 replace h := F_dec hb50 h
 refine .direct ?_
 obtain ⟨o54, ho55, hk56⟩ := bind_some h
 replace h := ho55
 refine .cut (fun σ η => ∃ l51, ∃ b52, ∃ b53, (l51, b52, b53) = o54 ∧ σ = [(1, .optr 0 0 0 0), (4, .own 1 0 0 l51.length), (6, .bool b36), (7, .int .i64 y37), (8, .optr 2 0 0 0), (9, .bool b52), (10, .bool b53)] ∧ η = [.row 0 6 1 33 (fun _ => [.str a0.fName, sl 2 TParam.cells a0.fParams, sl 2 TParam.cells a0.fUses, sl 1 cS a0.fSlots, .bool a0.fGen, sl 5 TIns.cells a0.fCode]), .row 0 1 l51.length 3 (row cI l51), .row 0 5 1 53 (fun _ => [.int .i64 x41.fOp, .int .i64 x41.fA, .int .i64 x41.fB, .str x41.fS, .str x41.fT])]) ?_ ?_
 refine .direct ?_
 refine ⟨rfl, ?_⟩
 refine ⟨rfl, _, rfl, ?_⟩
 obtain ⟨v57, hv58, h⟩ := bind_some h
 refine ⟨_, ACall.pure0 (ok_s_IsFinal hv58) _ rfl (fun _ => rfl), ?_⟩
 rintro _ _ ⟨rfl, rfl⟩
 refine splitB.mk (fun hb59 => ?_) (fun hb59 => ?_)
 have hb69 := not_F hb59
 replace h := F_var hb69 h
 refine .float [(0, true), (1, true), (2, true), (3, true), (4, true), (5, true), (6, true), (7, true), (8, false), (9, true), (10, false), (11, true), (12, true), (13, true), (14, true), (15, true)] (by kernel_rfl) ?_
 obtain ⟨x60, hx61, h⟩ := bind_some h
 refine ⟨rfl, idx_bd hx61, _, Nat.zero_add _, ?_⟩
 refine ⟨rfl, _, ((idx_row hx61).trans rfl), ?_⟩
 refine ⟨rfl, _, rfl, ?_⟩
 obtain ⟨v62, hv63, h⟩ := bind_some h
 refine ⟨_, ACall.pure0 (ok_s_InsChange hv63) _ rfl (fun _ => rfl), ?_⟩
 rintro _ _ ⟨rfl, rfl⟩
 refine ⟨rfl, ?_⟩
 refine ⟨rfl, ?_⟩
 obtain ⟨⟨v64, v65, v66⟩, hv67, h⟩ := bind_some h
 have hl68 := l27Give_len hv67
 refine ⟨fun res h' => res = .tup [.bool v64, .bool v65] ∧ h' = [.row 0 6 1 33 (fun _ => [.str a0.fName, sl 2 TParam.cells a0.fParams, sl 2 TParam.cells a0.fUses, sl 1 cS a0.fSlots, .bool a0.fGen, sl 5 TIns.cells a0.fCode]), .row 0 1 l35.length 3 (row cI v66), .row 0 5 1 53 (fun _ => [.int .i64 x41.fOp, .int .i64 x41.fA, .int .i64 x41.fB, .str x41.fS, .str x41.fT])], (ACall.over (ok_s_l27Give (g1000 := 0) hv67) [1] [.row 0 6 1 33 (fun _ => [.str a0.fName, sl 2 TParam.cells a0.fParams, sl 2 TParam.cells a0.fUses, sl 1 cS a0.fSlots, .bool a0.fGen, sl 5 TIns.cells a0.fCode]), .row 0 1 l35.length 3 (row cI l35), .row 0 5 1 53 (fun _ => [.int .i64 x41.fOp, .int .i64 x41.fA, .int .i64 x41.fB, .str x41.fS, .str x41.fT])] rfl (by decide) (by simp) (by intro j o hj; exact match j, hj with | 0, hj => by cases hj; exact (congrArg some (renO_row cI_pure _ _ _ _ _ _)).symm | j + 1, hj => by cases hj) rfl).mono (by rintro _ _ ⟨_, _, ⟨rfl, rfl⟩, rfl, rfl⟩; exact ⟨rfl, (by simp only [nxtL, putSel, List.map_cons, List.map_nil, List.drop, List.length_cons, List.length_nil, renO_row cI_pure]; rfl)⟩), ?_⟩
 rintro _ _ ⟨rfl, rfl⟩
 exact ⟨[(1, .optr 0 0 0 0), (4, .own 1 0 0 v66.length), (6, .bool b36), (7, .int .i64 y37), (8, .optr 2 0 0 0), (9, .bool v64), (10, .bool v65)], [.row 0 6 1 33 (fun _ => [.str a0.fName, sl 2 TParam.cells a0.fParams, sl 2 TParam.cells a0.fUses, sl 1 cS a0.fSlots, .bool a0.fGen, sl 5 TIns.cells a0.fCode]), .row 0 1 v66.length 3 (row cI v66), .row 0 5 1 53 (fun _ => [.int .i64 x41.fOp, .int .i64 x41.fA, .int .i64 x41.fB, .str x41.fS, .str x41.fT])], ⟨[0, 1, 2], by decide, (show 0 ≤ 3 by decide), ⟨.optr_eq rfl ⟨_, _, _, _, rfl⟩ ⟨_, _, _, _, rfl, Nat.zero_lt_one⟩ rfl rfl, .own_eq rfl ⟨_, _, _, _, rfl⟩ ⟨_, _, _, _, rfl, Nat.le_of_eq (Nat.zero_add _)⟩ rfl (by simp [hl68]), .bool_eq rfl, .int_eq rfl, .optr_eq rfl ⟨_, _, _, _, rfl⟩ ⟨_, _, _, _, rfl, Nat.zero_lt_one⟩ rfl rfl, .bool_eq rfl, .bool_eq rfl, trivial⟩, ⟨⟨fun h0 => absurd (show 0 < 0 from h0) (by decide), rfl, .inl rfl, rfl, fun _ _ => ⟨.str_eq rfl, .slc_eq rfl (fun _ _ => rfl), .slc_eq rfl (fun _ _ => rfl), .slc_eq rfl (fun _ _ => rfl), .bool_eq rfl, .slc_eq rfl (fun _ _ => rfl), trivial⟩⟩, ⟨fun h0 => absurd (show 1 < 0 from h0) (by decide), rfl, .inl (by simp [hl68]), rfl, fz_row cI_pure⟩, ⟨fun h0 => absurd (show 2 < 0 from h0) (by decide), rfl, .inl rfl, rfl, fun _ _ => ⟨.int_eq rfl, .int_eq rfl, .int_eq rfl, .str_eq rfl, .str_eq rfl, trivial⟩⟩, trivial⟩⟩, v66, v64, v65, Option.some.inj h, rfl, rfl⟩
 have hb69 := not_T hb59
 replace h := T_var hb69 h
 exact ⟨[(1, .optr 0 0 0 0), (4, .own 1 0 0 l35.length), (6, .bool b36), (7, .int .i64 y37), (8, .optr 2 0 0 0), (9, .bool false), (10, .bool true)], [.row 0 6 1 33 (fun _ => [.str a0.fName, sl 2 TParam.cells a0.fParams, sl 2 TParam.cells a0.fUses, sl 1 cS a0.fSlots, .bool a0.fGen, sl 5 TIns.cells a0.fCode]), .row 0 1 l35.length 3 (row cI l35), .row 0 5 1 53 (fun _ => [.int .i64 x41.fOp, .int .i64 x41.fA, .int .i64 x41.fB, .str x41.fS, .str x41.fT])], ⟨[0, 1, 2], by decide, (show 0 ≤ 3 by decide), ⟨.optr_eq rfl ⟨_, _, _, _, rfl⟩ ⟨_, _, _, _, rfl, Nat.zero_lt_one⟩ rfl rfl, .own_eq rfl ⟨_, _, _, _, rfl⟩ ⟨_, _, _, _, rfl, Nat.le_of_eq (Nat.zero_add _)⟩ rfl rfl, .bool_eq rfl, .int_eq rfl, .optr_eq rfl ⟨_, _, _, _, rfl⟩ ⟨_, _, _, _, rfl, Nat.zero_lt_one⟩ rfl rfl, .bool_eq rfl, .bool_eq rfl, trivial⟩, ⟨⟨fun h0 => absurd (show 0 < 0 from h0) (by decide), rfl, .inl rfl, rfl, fun _ _ => ⟨.str_eq rfl, .slc_eq rfl (fun _ _ => rfl), .slc_eq rfl (fun _ _ => rfl), .slc_eq rfl (fun _ _ => rfl), .bool_eq rfl, .slc_eq rfl (fun _ _ => rfl), trivial⟩⟩, ⟨fun h0 => absurd (show 1 < 0 from h0) (by decide), rfl, .inl rfl, rfl, fz_row cI_pure⟩, ⟨fun h0 => absurd (show 2 < 0 from h0) (by decide), rfl, .inl rfl, rfl, fun _ _ => ⟨.int_eq rfl, .int_eq rfl, .int_eq rfl, .str_eq rfl, .str_eq rfl, trivial⟩⟩, trivial⟩⟩, l35, false, true, Option.some.inj h, rfl, rfl⟩
 rintro _ _ ⟨l51, b52, b53, rfl, rfl, rfl⟩
 replace h := hk56
 refine .direct ?_
 obtain ⟨o73, ho74, hk75⟩ := bind_some h
 replace h := ho74
 refine .cut (fun σ η => ∃ l70, ∃ b71, ∃ b72, (l70, b71, b72) = o73 ∧ σ = [(1, .optr 0 0 0 0), (4, .own 1 0 0 l70.length), (6, .bool b36), (7, .int .i64 y37), (9, .bool b52), (10, .bool b53), (11, .bool b71), (12, .bool b72)] ∧ η = [.row 0 6 1 33 (fun _ => [.str a0.fName, sl 2 TParam.cells a0.fParams, sl 2 TParam.cells a0.fUses, sl 1 cS a0.fSlots, .bool a0.fGen, sl 5 TIns.cells a0.fCode]), .row 0 1 l70.length 3 (row cI l70)]) ?_ ?_
 refine .direct ?_
 refine ⟨rfl, ?_⟩
 refine ⟨rfl, _, rfl, ?_⟩
 obtain ⟨v76, hv77, h⟩ := bind_some h
 refine ⟨_, ACall.pure0 (ok_s_HasTarget hv77) _ rfl (fun _ => rfl), ?_⟩
 rintro _ _ ⟨rfl, rfl⟩
 refine splitB.mk (fun hb78 => ?_) (fun hb78 => ?_)
 replace h := T_var hb78 h
 refine .float [(0, true), (1, true), (2, true), (3, true), (4, true), (5, true), (6, true), (7, true), (8, true), (9, false), (10, true), (11, false), (12, true), (13, true), (14, true), (15, true), (16, true)] (by kernel_rfl) ?_
 refine ⟨rfl, ?_⟩
 refine ⟨rfl, _, rfl, ?_⟩
 obtain ⟨x79, hx80, h⟩ := bind_some h
 refine ⟨rfl, idx_bd hx80, _, Nat.zero_add _, ?_⟩
 refine ⟨rfl, _, ((idx_row hx80).trans rfl), ?_⟩
 refine ⟨rfl, ?_⟩
 refine ⟨rfl, _, rfl, ?_⟩
 obtain ⟨v81, hv82, h⟩ := bind_some h
 refine ⟨_, ACall.pure0 (ok_s_TargetChange hv82) _ rfl (fun _ => rfl), ?_⟩
 rintro _ _ ⟨rfl, rfl⟩
 refine ⟨rfl, ?_⟩
 refine ⟨rfl, ?_⟩
 refine ⟨rfl, ?_⟩
 refine ⟨rfl, ?_⟩
 obtain ⟨⟨v83, v84, v85⟩, hv86, h⟩ := bind_some h
 have hl87 := l27Give_len hv86
 refine ⟨fun res h' => res = .tup [.bool v83, .bool v84] ∧ h' = [.row 0 6 1 33 (fun _ => [.str a0.fName, sl 2 TParam.cells a0.fParams, sl 2 TParam.cells a0.fUses, sl 1 cS a0.fSlots, .bool a0.fGen, sl 5 TIns.cells a0.fCode]), .row 0 1 l51.length 3 (row cI v85), .row 0 5 1 53 (fun _ => [.int .i64 x41.fOp, .int .i64 x41.fA, .int .i64 x41.fB, .str x41.fS, .str x41.fT])], (ACall.over (ok_s_l27Give (g1000 := 0) hv86) [1] [.row 0 6 1 33 (fun _ => [.str a0.fName, sl 2 TParam.cells a0.fParams, sl 2 TParam.cells a0.fUses, sl 1 cS a0.fSlots, .bool a0.fGen, sl 5 TIns.cells a0.fCode]), .row 0 1 l51.length 3 (row cI l51), .row 0 5 1 53 (fun _ => [.int .i64 x41.fOp, .int .i64 x41.fA, .int .i64 x41.fB, .str x41.fS, .str x41.fT])] rfl (by decide) (by simp) (by intro j o hj; exact match j, hj with | 0, hj => by cases hj; exact (congrArg some (renO_row cI_pure _ _ _ _ _ _)).symm | j + 1, hj => by cases hj) rfl).mono (by rintro _ _ ⟨_, _, ⟨rfl, rfl⟩, rfl, rfl⟩; exact ⟨rfl, (by simp only [nxtL, putSel, List.map_cons, List.map_nil, List.drop, List.length_cons, List.length_nil, renO_row cI_pure]; rfl)⟩), ?_⟩
 rintro _ _ ⟨rfl, rfl⟩
 exact ⟨[(1, .optr 0 0 0 0), (4, .own 1 0 0 v85.length), (6, .bool b36), (7, .int .i64 y37), (9, .bool b52), (10, .bool b53), (11, .bool v83), (12, .bool v84)], [.row 0 6 1 33 (fun _ => [.str a0.fName, sl 2 TParam.cells a0.fParams, sl 2 TParam.cells a0.fUses, sl 1 cS a0.fSlots, .bool a0.fGen, sl 5 TIns.cells a0.fCode]), .row 0 1 v85.length 3 (row cI v85)], ⟨[0, 1], by decide, (show 0 ≤ 2 by decide), ⟨.optr_eq rfl ⟨_, _, _, _, rfl⟩ ⟨_, _, _, _, rfl, Nat.zero_lt_one⟩ rfl rfl, .own_eq rfl ⟨_, _, _, _, rfl⟩ ⟨_, _, _, _, rfl, Nat.le_of_eq (Nat.zero_add _)⟩ rfl (by simp [hl87]), .bool_eq rfl, .int_eq rfl, .bool_eq rfl, .bool_eq rfl, .bool_eq rfl, .bool_eq rfl, trivial⟩, ⟨⟨fun h0 => absurd (show 0 < 0 from h0) (by decide), rfl, .inl rfl, rfl, fun _ _ => ⟨.str_eq rfl, .slc_eq rfl (fun _ _ => rfl), .slc_eq rfl (fun _ _ => rfl), .slc_eq rfl (fun _ _ => rfl), .bool_eq rfl, .slc_eq rfl (fun _ _ => rfl), trivial⟩⟩, ⟨fun h0 => absurd (show 1 < 0 from h0) (by decide), rfl, .inl (by simp [hl87]), rfl, fz_row cI_pure⟩, trivial⟩⟩, v85, v83, v84, Option.some.inj h, rfl, rfl⟩
 replace h := F_var hb78 h
 exact ⟨[(1, .optr 0 0 0 0), (4, .own 1 0 0 l51.length), (6, .bool b36), (7, .int .i64 y37), (9, .bool b52), (10, .bool b53), (11, .bool false), (12, .bool true)], [.row 0 6 1 33 (fun _ => [.str a0.fName, sl 2 TParam.cells a0.fParams, sl 2 TParam.cells a0.fUses, sl 1 cS a0.fSlots, .bool a0.fGen, sl 5 TIns.cells a0.fCode]), .row 0 1 l51.length 3 (row cI l51)], ⟨[0, 1], by decide, (show 0 ≤ 2 by decide), ⟨.optr_eq rfl ⟨_, _, _, _, rfl⟩ ⟨_, _, _, _, rfl, Nat.zero_lt_one⟩ rfl rfl, .own_eq rfl ⟨_, _, _, _, rfl⟩ ⟨_, _, _, _, rfl, Nat.le_of_eq (Nat.zero_add _)⟩ rfl rfl, .bool_eq rfl, .int_eq rfl, .bool_eq rfl, .bool_eq rfl, .bool_eq rfl, .bool_eq rfl, trivial⟩, ⟨⟨fun h0 => absurd (show 0 < 0 from h0) (by decide), rfl, .inl rfl, rfl, fun _ _ => ⟨.str_eq rfl, .slc_eq rfl (fun _ _ => rfl), .slc_eq rfl (fun _ _ => rfl), .slc_eq rfl (fun _ _ => rfl), .bool_eq rfl, .slc_eq rfl (fun _ _ => rfl), trivial⟩⟩, ⟨fun h0 => absurd (show 1 < 0 from h0) (by decide), rfl, .inl rfl, rfl, fz_row cI_pure⟩, trivial⟩⟩, l51, false, true, Option.some.inj h, rfl, rfl⟩
 rintro _ _ ⟨l70, b71, b72, rfl, rfl, rfl⟩
 replace h := hk75
 refine .direct ?_
 refine .direct ?_
 refine splitB.mk (fun hb88 => ?_) (fun hb88 => ?_)
 have hb93 := not_F hb88
 replace h := F_var hb93 h
 refine splitB_t ?_
 refine splitB_t ?_
 refine splitB_t ?_
 refine .direct ?_
 refine ⟨row cI ([] : List Int), row_lit cI ([] : List Int) rfl (cll_refl rfl), ?_⟩
 obtain rfl := Option.some.inj h
 replace h := hk34
 obtain rfl := Option.some.inj h
 replace h := hk26
 obtain rfl := Option.some.inj h
 exact ⟨[], .tup [sl 1 cI ([] : List Int), .bool false], [], by decide, (show 0 ≤ 0 by decide), .tup_l ⟨(fz_frz2 cI_pure (by first | decide | simp) rfl shows_all rfl), .bool_eq rfl, trivial⟩, trivial, rfl, rfl⟩
 have hb93 := not_T hb88
 replace h := T_var hb93 h
 refine splitB_f ?_
 refine splitB_f ?_
 refine splitB.mk (fun hb89 => ?_) (fun hb89 => ?_)
 have hb92 := not_F hb89
 replace h := F_var hb92 h
 refine .direct ?_
 refine ⟨row cI ([] : List Int), row_lit cI ([] : List Int) rfl (cll_refl rfl), ?_⟩
 obtain rfl := Option.some.inj h
 replace h := hk34
 obtain rfl := Option.some.inj h
 replace h := hk26
 obtain rfl := Option.some.inj h
 exact ⟨[], .tup [sl 1 cI ([] : List Int), .bool false], [], by decide, (show 0 ≤ 0 by decide), .tup_l ⟨(fz_frz2 cI_pure (by first | decide | simp) rfl shows_all rfl), .bool_eq rfl, trivial⟩, trivial, rfl, rfl⟩
 have hb92 := not_T hb89
 replace h := T_var hb92 h
 refine splitB.mk (fun hb90 => ?_) (fun hb90 => ?_)
 replace h := T_var hb90 h
 refine splitB_t ?_
 refine splitB_t ?_
 refine splitB_t ?_
 exact ⟨[(1, .optr 0 0 0 0), (4, .own 1 0 0 l70.length), (6, .bool true), (7, .int .i64 (W64 (y37 + 1)))], [.row 0 6 1 33 (fun _ => [.str a0.fName, sl 2 TParam.cells a0.fParams, sl 2 TParam.cells a0.fUses, sl 1 cS a0.fSlots, .bool a0.fGen, sl 5 TIns.cells a0.fCode]), .row 0 1 l70.length 3 (row cI l70)], ⟨[0, 1], by decide, (show 0 ≤ 2 by decide), ⟨.optr_eq rfl ⟨_, _, _, _, rfl⟩ ⟨_, _, _, _, rfl, Nat.zero_lt_one⟩ rfl rfl, .own_eq rfl ⟨_, _, _, _, rfl⟩ ⟨_, _, _, _, rfl, Nat.le_of_eq (Nat.zero_add _)⟩ rfl rfl, .bool_eq rfl, .int_eq rfl, trivial⟩, ⟨⟨fun h0 => absurd (show 0 < 0 from h0) (by decide), rfl, .inl rfl, rfl, fun _ _ => ⟨.str_eq rfl, .slc_eq rfl (fun _ _ => rfl), .slc_eq rfl (fun _ _ => rfl), .slc_eq rfl (fun _ _ => rfl), .bool_eq rfl, .slc_eq rfl (fun _ _ => rfl), trivial⟩⟩, ⟨fun h0 => absurd (show 1 < 0 from h0) (by decide), rfl, .inl rfl, rfl, fz_row cI_pure⟩, trivial⟩⟩, ih38 _ _ _ _ h rfl⟩
 replace h := F_var hb90 h
 refine splitB_f ?_
 refine splitB.mk (fun hb91 => ?_) (fun hb91 => ?_)
 replace h := T_var hb91 h
 refine splitB_t ?_
 exact ⟨[(1, .optr 0 0 0 0), (4, .own 1 0 0 l70.length), (6, .bool true), (7, .int .i64 (W64 (y37 + 1)))], [.row 0 6 1 33 (fun _ => [.str a0.fName, sl 2 TParam.cells a0.fParams, sl 2 TParam.cells a0.fUses, sl 1 cS a0.fSlots, .bool a0.fGen, sl 5 TIns.cells a0.fCode]), .row 0 1 l70.length 3 (row cI l70)], ⟨[0, 1], by decide, (show 0 ≤ 2 by decide), ⟨.optr_eq rfl ⟨_, _, _, _, rfl⟩ ⟨_, _, _, _, rfl, Nat.zero_lt_one⟩ rfl rfl, .own_eq rfl ⟨_, _, _, _, rfl⟩ ⟨_, _, _, _, rfl, Nat.le_of_eq (Nat.zero_add _)⟩ rfl rfl, .bool_eq rfl, .int_eq rfl, trivial⟩, ⟨⟨fun h0 => absurd (show 0 < 0 from h0) (by decide), rfl, .inl rfl, rfl, fun _ _ => ⟨.str_eq rfl, .slc_eq rfl (fun _ _ => rfl), .slc_eq rfl (fun _ _ => rfl), .slc_eq rfl (fun _ _ => rfl), .bool_eq rfl, .slc_eq rfl (fun _ _ => rfl), trivial⟩⟩, ⟨fun h0 => absurd (show 1 < 0 from h0) (by decide), rfl, .inl rfl, rfl, fz_row cI_pure⟩, trivial⟩⟩, ih38 _ _ _ _ h rfl⟩
 replace h := F_var hb91 h
 refine splitB_f ?_
 exact ⟨[(1, .optr 0 0 0 0), (4, .own 1 0 0 l70.length), (6, .bool b71), (7, .int .i64 (W64 (y37 + 1)))], [.row 0 6 1 33 (fun _ => [.str a0.fName, sl 2 TParam.cells a0.fParams, sl 2 TParam.cells a0.fUses, sl 1 cS a0.fSlots, .bool a0.fGen, sl 5 TIns.cells a0.fCode]), .row 0 1 l70.length 3 (row cI l70)], ⟨[0, 1], by decide, (show 0 ≤ 2 by decide), ⟨.optr_eq rfl ⟨_, _, _, _, rfl⟩ ⟨_, _, _, _, rfl, Nat.zero_lt_one⟩ rfl rfl, .own_eq rfl ⟨_, _, _, _, rfl⟩ ⟨_, _, _, _, rfl, Nat.le_of_eq (Nat.zero_add _)⟩ rfl rfl, .bool_eq rfl, .int_eq rfl, trivial⟩, ⟨⟨fun h0 => absurd (show 0 < 0 from h0) (by decide), rfl, .inl rfl, rfl, fun _ _ => ⟨.str_eq rfl, .slc_eq rfl (fun _ _ => rfl), .slc_eq rfl (fun _ _ => rfl), .slc_eq rfl (fun _ _ => rfl), .bool_eq rfl, .slc_eq rfl (fun _ _ => rfl), trivial⟩⟩, ⟨fun h0 => absurd (show 1 < 0 from h0) (by decide), rfl, .inl rfl, rfl, fz_row cI_pure⟩, trivial⟩⟩, ih38 _ _ _ _ h rfl⟩
 replace h := F_dec hb40 h
 obtain rfl := Option.some.inj h
 replace h := hk34
 exact ⟨[(1, .optr 0 0 0 0), (4, .own 1 0 0 l35.length), (6, .bool b36)], [.row 0 6 1 33 (fun _ => [.str a0.fName, sl 2 TParam.cells a0.fParams, sl 2 TParam.cells a0.fUses, sl 1 cS a0.fSlots, .bool a0.fGen, sl 5 TIns.cells a0.fCode]), .row 0 1 l35.length 3 (row cI l35)], ⟨[0, 1], by decide, (show 0 ≤ 2 by decide), ⟨.optr_eq rfl ⟨_, _, _, _, rfl⟩ ⟨_, _, _, _, rfl, Nat.zero_lt_one⟩ rfl rfl, .own_eq rfl ⟨_, _, _, _, rfl⟩ ⟨_, _, _, _, rfl, Nat.le_of_eq (Nat.zero_add _)⟩ rfl rfl, .bool_eq rfl, trivial⟩, ⟨⟨fun h0 => absurd (show 0 < 0 from h0) (by decide), rfl, .inl rfl, rfl, fun _ _ => ⟨.str_eq rfl, .slc_eq rfl (fun _ _ => rfl), .slc_eq rfl (fun _ _ => rfl), .slc_eq rfl (fun _ _ => rfl), .bool_eq rfl, .slc_eq rfl (fun _ _ => rfl), trivial⟩⟩, ⟨fun h0 => absurd (show 1 < 0 from h0) (by decide), rfl, .inl rfl, rfl, fz_row cI_pure⟩, trivial⟩⟩, ih29 _ _ _ h rfl⟩
 replace h := F_var hb31 h
 exact ⟨[(4, .own 0 0 0 l27.length)], [.row 0 1 l27.length 3 (row cI l27)], ⟨[1], by decide, (show 0 ≤ 1 by decide), ⟨.own_eq rfl ⟨_, _, _, _, rfl⟩ ⟨_, _, _, _, rfl, Nat.le_of_eq (Nat.zero_add _)⟩ rfl rfl, trivial⟩, ⟨⟨fun h0 => absurd (show 0 < 0 from h0) (by decide), rfl, .inl rfl, rfl, fz_row cI_pure⟩, trivial⟩⟩, l27, Option.some.inj h, rfl, rfl⟩
 rintro _ _ ⟨l23, rfl, rfl, rfl⟩
 replace h := hk26
 refine .direct ?_
 obtain rfl := Option.some.inj h
 exact ⟨[], .tup [sl 1 cI l23, .bool true], [], by decide, (show 0 ≤ 0 by decide), .tup_l ⟨(fz_frz cI_pure (by first | decide | simp) rfl shows_all), .bool_eq rfl, trivial⟩, trivial, rfl, rfl⟩
end Go.Am
