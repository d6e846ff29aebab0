/- Models of Go functions, and their walks. (Printed by tools/mg.py.) -/
import Derived.Test.YtnehfdofoemnfaaA4b
set_option linter.unusedVariables false
set_option linter.unusedSimpArgs false
set_option maxRecDepth 100000
namespace Go.Am
open Go Go.RowKit Go.Proofs

def m_s_IsFunc_L2 (a0 : TFunc) (y21 : Int) : Option ((Unit) ⊕ Bool) :=
 (if y21 < (a0.fCode.length : Int) then
 idx a0.fCode y21 >>= fun x25 =>
 (if x25.fOp = 54 then
 (if a0.fGen = true then
 m_s_IsFunc_L2 a0 (W64 (y21 + 1))
 else
 some (.inr false))
 else
 m_s_IsFunc_L2 a0 (W64 (y21 + 1)))
 else
 some (.inl ()))
partial_fixpoint
def m_s_IsFunc (a0 : TFunc) : Option (Bool) :=
 ((
 m_s_l1In (a0.fName.length : Int) 1 100 >>= fun v4 =>
 (if v4 = true then
 (if (a0.fCode.length : Int) > 8000 then
 some (.inr false)
 else
 m_s_l27Names a0 >>= fun v8 =>
 (if v8 = true then
 m_s_l25Top a0 >>= fun v11 =>
 (if v11 = true then
 (if (a0.fSlots.length : Int) > 0 then
 some (.inr false)
 else
 (if a0.fGen = true then
 some (.inr false)
 else
 some (.inl ())))
 else
 some (.inl ()))
 else
 some (.inr false)))
 else
 some (.inr false))
 : Option ((Unit) ⊕ Bool)) >>= fun o1 => match o1 with
 | .inr r => some r
 | .inl _ =>
 ((
 m_s_IsFunc_L2 a0 0
 : Option ((Unit) ⊕ Bool)) >>= fun o18 => match o18 with
 | .inr r => some r
 | .inl _ =>
 m_s_HeightsOf a0 >>= fun (v32, v33) =>
 some v33
 )
 )
theorem ok_s_IsFunc {a0 : TFunc} {r : Bool} (h : m_s_IsFunc a0 = some r) : ACall Try.prog 27 [.agg [.str a0.fName, sl 2 TParam.cells a0.fParams, sl 2 TParam.cells a0.fUses, sl 1 cS a0.fSlots, .bool a0.fGen, sl 5 TIns.cells a0.fCode]] [] (fun res h => res = .bool r ∧ h = []) := by
 refine ACall.of_vc tabT_ok mixed Try.func27 rfl (by kernel_rfl) _ _ _ rfl (by kernel_rfl) ?_
 unfold m_s_IsFunc at h
 refine .direct ?_
 obtain ⟨o1, ho2, hk3⟩ := bind_some h
 replace h := ho2
 refine .cut (fun σ η => .inl () = o1 ∧ σ = [(1, .optr 0 0 0 0)] ∧ η = [.row 0 6 1 33 (fun _ => [.str a0.fName, sl 2 TParam.cells a0.fParams, sl 2 TParam.cells a0.fUses, sl 1 cS a0.fSlots, .bool a0.fGen, sl 5 TIns.cells a0.fCode])]) ?_ ?_
 refine .direct ?_
 refine ⟨rfl, ?_⟩
 refine ⟨rfl, _, rfl, ?_⟩
 obtain ⟨v4, hv5, h⟩ := bind_some h
 refine ⟨_, ACall.pure0 (ok_s_l1In hv5) _ rfl (fun _ => rfl), ?_⟩
 rintro _ _ ⟨rfl, rfl⟩
 refine splitB.mk (fun hb6 => ?_) (fun hb6 => ?_)
 have hb17 := not_F hb6
 replace h := F_var hb17 h
 refine splitB_t ?_
 refine splitB_t ?_
 refine splitB_t ?_
 refine splitB_t ?_
 refine splitB_t ?_
 refine splitB_t ?_
 refine splitB_t ?_
 refine splitB_t ?_
 refine splitB_t ?_
 refine splitB_t ?_
 refine splitB_t ?_
 refine splitB_t ?_
 refine splitB_t ?_
 refine splitB_t ?_
 refine .direct ?_
 obtain rfl := Option.some.inj h
 replace h := hk3
 obtain rfl := Option.some.inj h
 exact ⟨[], .bool false, [], by decide, (show 0 ≤ 0 by decide), .bool_eq rfl, trivial, rfl, rfl⟩
 have hb17 := not_T hb6
 replace h := T_var hb17 h
 refine ⟨rfl, ?_⟩
 refine splitB_f ?_
 refine ⟨rfl, _, rfl, ?_⟩
 refine splitB_f ?_
 refine splitB_f ?_
 refine splitB_f ?_
 refine splitB.mk (fun hb7 => ?_) (fun hb7 => ?_)
 replace h := T_dec hb7 h
 refine splitB_t ?_
 refine splitB_t ?_
 refine splitB_t ?_
 refine splitB_t ?_
 refine splitB_t ?_
 refine splitB_t ?_
 refine splitB_t ?_
 refine splitB_t ?_
 refine splitB_t ?_
 refine .direct ?_
 obtain rfl := Option.some.inj h
 replace h := hk3
 obtain rfl := Option.some.inj h
 exact ⟨[], .bool false, [], by decide, (show 0 ≤ 0 by decide), .bool_eq rfl, trivial, rfl, rfl⟩
 replace h := F_dec hb7 h
 refine ⟨rfl, _, rfl, ?_⟩
 refine splitB_f ?_
 obtain ⟨v8, hv9, h⟩ := bind_some h
 refine ⟨_, ACall.pure0 (ok_s_l27Names hv9) _ rfl (fun _ => rfl), ?_⟩
 rintro _ _ ⟨rfl, rfl⟩
 refine splitB_f ?_
 refine splitB_f ?_
 refine splitB.mk (fun hb10 => ?_) (fun hb10 => ?_)
 have hb16 := not_F hb10
 replace h := F_var hb16 h
 refine splitB_t ?_
 refine splitB_t ?_
 refine splitB_t ?_
 refine splitB_t ?_
 refine splitB_t ?_
 refine .direct ?_
 obtain rfl := Option.some.inj h
 replace h := hk3
 obtain rfl := Option.some.inj h
 exact ⟨[], .bool false, [], by decide, (show 0 ≤ 0 by decide), .bool_eq rfl, trivial, rfl, rfl⟩
 have hb16 := not_T hb10
 replace h := T_var hb16 h
 refine ⟨rfl, _, rfl, ?_⟩
 refine splitB_f ?_
 obtain ⟨v11, hv12, h⟩ := bind_some h
 refine ⟨_, ACall.pure0 (ok_s_l25Top hv12) _ rfl (fun _ => rfl), ?_⟩
 rintro _ _ ⟨rfl, rfl⟩
 refine splitB_f ?_
 refine splitB.mk (fun hb13 => ?_) (fun hb13 => ?_)
 replace h := T_var hb13 h
 refine ⟨rfl, ?_⟩
 refine splitB_t ?_
 refine ⟨rfl, _, rfl, ?_⟩
 refine splitB_t ?_
 refine splitB_t ?_
 refine splitB_t ?_
 refine splitB.mk (fun hb14 => ?_) (fun hb14 => ?_)
 replace h := T_dec hb14 h
 refine splitB_t ?_
 refine splitB_t ?_
 refine splitB_t ?_
 refine splitB_f ?_
 refine splitB_t ?_
 refine splitB_f ?_
 refine splitB_t ?_
 refine .direct ?_
 obtain rfl := Option.some.inj h
 replace h := hk3
 obtain rfl := Option.some.inj h
 exact ⟨[], .bool false, [], by decide, (show 0 ≤ 0 by decide), .bool_eq rfl, trivial, rfl, rfl⟩
 replace h := F_dec hb14 h
 refine ⟨rfl, ?_⟩
 refine splitB_f ?_
 refine ⟨rfl, _, rfl, ?_⟩
 refine splitB_t ?_
 refine splitB_f ?_
 refine splitB_f ?_
 refine splitB_t ?_
 refine splitB_f ?_
 refine splitB.mk (fun hb15 => ?_) (fun hb15 => ?_)
 replace h := T_var hb15 h
 refine .direct ?_
 obtain rfl := Option.some.inj h
 replace h := hk3
 obtain rfl := Option.some.inj h
 exact ⟨[], .bool false, [], by decide, (show 0 ≤ 0 by decide), .bool_eq rfl, trivial, rfl, rfl⟩
 replace h := F_var hb15 h
 exact ⟨[(1, .optr 0 0 0 0)], [.row 0 6 1 33 (fun _ => [.str a0.fName, sl 2 TParam.cells a0.fParams, sl 2 TParam.cells a0.fUses, sl 1 cS a0.fSlots, .bool a0.fGen, sl 5 TIns.cells a0.fCode])], ⟨[0], by decide, (show 0 ≤ 1 by decide), ⟨.optr_eq rfl ⟨_, _, _, _, rfl⟩ ⟨_, _, _, _, rfl, Nat.zero_lt_one⟩ rfl rfl, trivial⟩, ⟨⟨fun h0 => absurd (show 0 < 0 from h0) (by decide), rfl, .inl rfl, rfl, fun _ _ => ⟨.str_eq rfl, .slc_eq rfl (fun _ _ => rfl), .slc_eq rfl (fun _ _ => rfl), .slc_eq rfl (fun _ _ => rfl), .bool_eq rfl, .slc_eq rfl (fun _ _ => rfl), trivial⟩⟩, trivial⟩⟩, Option.some.inj h, rfl, rfl⟩
 replace h := F_var hb13 h
 refine splitB_f ?_
 refine splitB_f ?_
 refine splitB_f ?_
 refine splitB_f ?_
 refine splitB_f ?_
 refine splitB_f ?_
 refine splitB_f ?_
 refine splitB_f ?_
 refine splitB_f ?_
 exact ⟨[(1, .optr 0 0 0 0)], [.row 0 6 1 33 (fun _ => [.str a0.fName, sl 2 TParam.cells a0.fParams, sl 2 TParam.cells a0.fUses, sl 1 cS a0.fSlots, .bool a0.fGen, sl 5 TIns.cells a0.fCode])], ⟨[0], by decide, (show 0 ≤ 1 by decide), ⟨.optr_eq rfl ⟨_, _, _, _, rfl⟩ ⟨_, _, _, _, rfl, Nat.zero_lt_one⟩ rfl rfl, trivial⟩, ⟨⟨fun h0 => absurd (show 0 < 0 from h0) (by decide), rfl, .inl rfl, rfl, fun _ _ => ⟨.str_eq rfl, .slc_eq rfl (fun _ _ => rfl), .slc_eq rfl (fun _ _ => rfl), .slc_eq rfl (fun _ _ => rfl), .bool_eq rfl, .slc_eq rfl (fun _ _ => rfl), trivial⟩⟩, trivial⟩⟩, Option.some.inj h, rfl, rfl⟩
 rintro _ _ ⟨rfl, rfl, rfl⟩
 replace h := hk3
 obtain ⟨o18, ho19, hk20⟩ := bind_some h
 replace h := ho19
 refine .cut (fun σ η => .inl () = o18 ∧ σ = [(1, .optr 0 0 0 0)] ∧ η = [.row 0 6 1 33 (fun _ => [.str a0.fName, sl 2 TParam.cells a0.fParams, sl 2 TParam.cells a0.fUses, sl 1 cS a0.fSlots, .bool a0.fGen, sl 5 TIns.cells a0.fCode])]) ?_ ?_
 refine .direct ?_
 refine LoopAt.enter [(1, .optr 0 0 0 0), (3, .int .i64 0)] [.row 0 6 1 33 (fun _ => [.str a0.fName, sl 2 TParam.cells a0.fParams, sl 2 TParam.cells a0.fUses, sl 1 cS a0.fSlots, .bool a0.fGen, sl 5 TIns.cells a0.fCode])] ⟨[0], by decide, (show 0 ≤ 1 by decide), ⟨.optr_eq rfl ⟨_, _, _, _, rfl⟩ ⟨_, _, _, _, rfl, Nat.zero_lt_one⟩ rfl rfl, .int_eq rfl, trivial⟩, ⟨⟨fun h0 => absurd (show 0 < 0 from h0) (by decide), rfl, .inl rfl, rfl, fun _ _ => ⟨.str_eq rfl, .slc_eq rfl (fun _ _ => rfl), .slc_eq rfl (fun _ _ => rfl), .slc_eq rfl (fun _ _ => rfl), .bool_eq rfl, .slc_eq rfl (fun _ _ => rfl), trivial⟩⟩, trivial⟩⟩ ?_
 refine m_s_IsFunc_L2.partial_correctness a0 (motive := fun y21 o30 => o18 = o30 → LoopAt _ _ [(1, .optr 0 0 0 0), (3, .int .i64 y21)] [.row 0 6 1 33 (fun _ => [.str a0.fName, sl 2 TParam.cells a0.fParams, sl 2 TParam.cells a0.fUses, sl 1 cS a0.fSlots, .bool a0.fGen, sl 5 TIns.cells a0.fCode])]) ?_ 0 o18 h rfl
 intro F23 ih22 y21 o30 h hr31
 subst hr31
 refine LoopAt.round ?_
 refine .direct ?_
 refine .direct ?_
 refine ⟨rfl, ?_⟩
 refine ⟨rfl, _, rfl, ?_⟩
 refine splitB.mk (fun hb24 => ?_) (fun hb24 => ?_)
 replace h := T_dec hb24 h
 refine .direct ?_
 refine .direct ?_
 refine ⟨rfl, ?_⟩
 refine ⟨rfl, _, rfl, ?_⟩
 obtain ⟨x25, hx26, h⟩ := bind_some h
 refine ⟨idx_bd hx26, _, (idx_row hx26).trans (TIns.cells_eq x25), ?_⟩
 refine splitB.mk (fun hb27 => ?_) (fun hb27 => ?_)
 replace h := T_beq hb27 h
 refine ⟨rfl, ?_⟩
 refine splitB_t ?_
 refine ⟨rfl, _, rfl, ?_⟩
 refine splitB_t ?_
 refine splitB_t ?_
 refine splitB.mk (fun hb28 => ?_) (fun hb28 => ?_)
 have hb29 := not_F hb28
 replace h := F_var hb29 h
 refine .direct ?_
 obtain rfl := Option.some.inj h
 replace h := hk20
 obtain rfl := Option.some.inj h
 exact ⟨[], .bool false, [], by decide, (show 0 ≤ 0 by decide), .bool_eq rfl, trivial, rfl, rfl⟩
 have hb29 := not_T hb28
 replace h := T_var hb29 h
 exact ⟨[(1, .optr 0 0 0 0), (3, .int .i64 (W64 (y21 + 1)))], [.row 0 6 1 33 (fun _ => [.str a0.fName, sl 2 TParam.cells a0.fParams, sl 2 TParam.cells a0.fUses, sl 1 cS a0.fSlots, .bool a0.fGen, sl 5 TIns.cells a0.fCode])], ⟨[0], by decide, (show 0 ≤ 1 by decide), ⟨.optr_eq rfl ⟨_, _, _, _, rfl⟩ ⟨_, _, _, _, rfl, Nat.zero_lt_one⟩ rfl rfl, .int_eq rfl, trivial⟩, ⟨⟨fun h0 => absurd (show 0 < 0 from h0) (by decide), rfl, .inl rfl, rfl, fun _ _ => ⟨.str_eq rfl, .slc_eq rfl (fun _ _ => rfl), .slc_eq rfl (fun _ _ => rfl), .slc_eq rfl (fun _ _ => rfl), .bool_eq rfl, .slc_eq rfl (fun _ _ => rfl), trivial⟩⟩, trivial⟩⟩, ih22 _ _ h rfl⟩
 replace h := F_beq hb27 h
 refine splitB_f ?_
 refine splitB_f ?_
 refine splitB_f ?_
 refine splitB_f ?_
 exact ⟨[(1, .optr 0 0 0 0), (3, .int .i64 (W64 (y21 + 1)))], [.row 0 6 1 33 (fun _ => [.str a0.fName, sl 2 TParam.cells a0.fParams, sl 2 TParam.cells a0.fUses, sl 1 cS a0.fSlots, .bool a0.fGen, sl 5 TIns.cells a0.fCode])], ⟨[0], by decide, (show 0 ≤ 1 by decide), ⟨.optr_eq rfl ⟨_, _, _, _, rfl⟩ ⟨_, _, _, _, rfl, Nat.zero_lt_one⟩ rfl rfl, .int_eq rfl, trivial⟩, ⟨⟨fun h0 => absurd (show 0 < 0 from h0) (by decide), rfl, .inl rfl, rfl, fun _ _ => ⟨.str_eq rfl, .slc_eq rfl (fun _ _ => rfl), .slc_eq rfl (fun _ _ => rfl), .slc_eq rfl (fun _ _ => rfl), .bool_eq rfl, .slc_eq rfl (fun _ _ => rfl), trivial⟩⟩, trivial⟩⟩, ih22 _ _ h rfl⟩
 replace h := F_dec hb24 h
 exact ⟨[(1, .optr 0 0 0 0)], [.row 0 6 1 33 (fun _ => [.str a0.fName, sl 2 TParam.cells a0.fParams, sl 2 TParam.cells a0.fUses, sl 1 cS a0.fSlots, .bool a0.fGen, sl 5 TIns.cells a0.fCode])], ⟨[0], by decide, (show 0 ≤ 1 by decide), ⟨.optr_eq rfl ⟨_, _, _, _, rfl⟩ ⟨_, _, _, _, rfl, Nat.zero_lt_one⟩ rfl rfl, trivial⟩, ⟨⟨fun h0 => absurd (show 0 < 0 from h0) (by decide), rfl, .inl rfl, rfl, fun _ _ => ⟨.str_eq rfl, .slc_eq rfl (fun _ _ => rfl), .slc_eq rfl (fun _ _ => rfl), .slc_eq rfl (fun _ _ => rfl), .bool_eq rfl, .slc_eq rfl (fun _ _ => rfl), trivial⟩⟩, trivial⟩⟩, Option.some.inj h, rfl, rfl⟩
 rintro _ _ ⟨rfl, rfl, rfl⟩
 replace h := hk20
 refine .direct ?_
 refine ⟨rfl, _, rfl, ?_⟩
 obtain ⟨⟨v32, v33⟩, hv34, h⟩ := bind_some h
 refine ⟨_, ACall.pure0 (ok_s_HeightsOf hv34) _ rfl (fun _ => rfl), ?_⟩
 rintro _ _ ⟨rfl, rfl⟩
 refine .direct ?_
 obtain rfl := Option.some.inj h
 exact ⟨[], .bool v33, [], by decide, (show 0 ≤ 0 by decide), .bool_eq rfl, trivial, rfl, rfl⟩
def m_i_IsFunc_L2 (a0 : TFunc) (l10 : List (Str × Bool)) (y11 : Int) : Option ((Unit) ⊕ Bool) :=
 (if y11 < (a0.fSlots.length : Int) then
 idx a0.fSlots y11 >>= fun x15 =>
 (if (mgd l10 x15 false) = true then
 some (.inr false)
 else
 m_i_goodName x15 >>= fun v18 =>
 (if v18 = true then
 (if x15 = ([116, 104, 105, 115] : Str) then
 some (.inr false)
 else
 m_i_IsFunc_L2 a0 (mput l10 x15 true) (W64 (y11 + 1)))
 else
 some (.inr false)))
 else
 some (.inl ()))
partial_fixpoint
def m_i_IsFunc_L4 (a0 : TFunc) (l30 : List TParam) (y32 : Int) : Option ((Unit) ⊕ Bool) :=
 (if y32 < (l30.length : Int) then
 idx l30 y32 >>= fun x36 =>
 idx a0.fSlots y32 >>= fun x38 =>
 (if x38 = x36.fName then
 m_i_IsFunc_L4 a0 l30 (W64 (y32 + 1))
 else
 some (.inr false))
 else
 some (.inl ()))
partial_fixpoint
def m_i_IsFunc_L6 (a0 : TFunc) (y47 : Int) : Option ((Unit) ⊕ Bool) :=
 (if y47 < (a0.fCode.length : Int) then
 idx a0.fCode y47 >>= fun x51 =>
 (if x51.fOp = 54 then
 (if a0.fGen = true then
 m_i_IsFunc_L6 a0 (W64 (y47 + 1))
 else
 some (.inr false))
 else
 m_i_IsFunc_L6 a0 (W64 (y47 + 1)))
 else
 some (.inl ()))
partial_fixpoint
def m_i_IsFunc (a0 : TFunc) : Option (Bool) :=
 m_i_InRange (a0.fName.length : Int) 1 100 >>= fun v1 =>
 (if v1 = true then
 (if (a0.fSlots.length : Int) > 600 then
 some false
 else
 (if (a0.fCode.length : Int) > 8000 then
 some false
 else
 (if (W64 ((a0.fParams.length : Int) + (a0.fUses.length : Int))) > (a0.fSlots.length : Int) then
 some false
 else
 ((
 m_i_IsFunc_L2 a0 ([] : List (Str × Bool)) 0
 : Option ((Unit) ⊕ Bool)) >>= fun o7 => match o7 with
 | .inr r => some r
 | .inl _ =>
 ((
 m_CloneP a0.fParams >>= fun v28 =>
 lapp 24 v28 a0.fUses >>= fun l30 =>
 m_i_IsFunc_L4 a0 l30 0
 : Option ((Unit) ⊕ Bool)) >>= fun o25 => match o25 with
 | .inr r => some r
 | .inl _ =>
 ((
 m_i_IsFunc_L6 a0 0
 : Option ((Unit) ⊕ Bool)) >>= fun o44 => match o44 with
 | .inr r => some r
 | .inl _ =>
 m_i_isFile a0 >>= fun v58 =>
 (if v58 = true then
 (if (a0.fSlots.length : Int) > 0 then
 some false
 else
 (if a0.fGen = true then
 some false
 else
 m_i_HeightsOf a0 >>= fun (v63, v64) =>
 some v64))
 else
 m_i_HeightsOf a0 >>= fun (v66, v67) =>
 some v67)
 )
 )
 ))))
 else
 some false)
theorem ok_i_IsFunc {a0 : TFunc} {r : Bool} (h : m_i_IsFunc a0 = some r) : ACall Try.prog 34 [.agg [.str a0.fName, sl 2 TParam.cells a0.fParams, sl 2 TParam.cells a0.fUses, sl 1 cS a0.fSlots, .bool a0.fGen, sl 5 TIns.cells a0.fCode]] [] (fun res h => res = .bool r ∧ h = []) := by
 refine ACall.of_vc tabT_ok mixed Try.func34 rfl (by kernel_rfl) _ _ _ rfl (by kernel_rfl) ?_
 unfold m_i_IsFunc at h
 refine .direct ?_
 refine .direct ?_
 refine .direct ?_
 refine ⟨rfl, ?_⟩
 refine ⟨rfl, _, rfl, ?_⟩
 obtain ⟨v1, hv2, h⟩ := bind_some h
 refine ⟨_, ACall.pure0 (ok_i_InRange hv2) _ rfl (fun _ => rfl), ?_⟩
 rintro _ _ ⟨rfl, rfl⟩
 refine splitB.mk (fun hb3 => ?_) (fun hb3 => ?_)
 have hb69 := not_F hb3
 replace h := F_var hb69 h
 refine splitB_t ?_
 refine splitB_t ?_
 refine splitB_t ?_
 refine splitB_t ?_
 refine splitB_t ?_
 refine splitB_t ?_
 refine splitB_t ?_
 refine splitB_t ?_
 refine splitB_t ?_
 refine splitB_t ?_
 refine splitB_t ?_
 refine splitB_t ?_
 refine splitB_t ?_
 refine splitB_t ?_
 refine splitB_t ?_
 refine splitB_t ?_
 refine splitB_t ?_
 refine splitB_t ?_
 refine splitB_t ?_
 refine splitB_t ?_
 refine splitB_t ?_
 refine splitB_t ?_
 refine .direct ?_
 obtain rfl := Option.some.inj h
 exact ⟨[], .bool false, [], by decide, (show 0 ≤ 0 by decide), .bool_eq rfl, trivial, rfl, rfl⟩
 have hb69 := not_T hb3
 replace h := T_var hb69 h
 refine ⟨rfl, ?_⟩
 refine splitB_f ?_
 refine ⟨rfl, _, rfl, ?_⟩
 refine splitB_f ?_
 refine splitB_f ?_
 refine splitB_f ?_
 refine splitB.mk (fun hb4 => ?_) (fun hb4 => ?_)
 replace h := T_dec hb4 h
 refine splitB_t ?_
 refine splitB_t ?_
 refine splitB_t ?_
 refine splitB_t ?_
 refine splitB_t ?_
 refine splitB_t ?_
 refine splitB_t ?_
 refine splitB_t ?_
 refine splitB_t ?_
 refine splitB_t ?_
 refine splitB_t ?_
 refine splitB_t ?_
 refine splitB_t ?_
 refine splitB_t ?_
 refine splitB_t ?_
 refine splitB_t ?_
 refine splitB_t ?_
 refine .direct ?_
 obtain rfl := Option.some.inj h
 exact ⟨[], .bool false, [], by decide, (show 0 ≤ 0 by decide), .bool_eq rfl, trivial, rfl, rfl⟩
 replace h := F_dec hb4 h
 refine ⟨rfl, ?_⟩
 refine splitB_f ?_
 refine ⟨rfl, _, rfl, ?_⟩
 refine splitB_f ?_
 refine splitB_f ?_
 refine splitB_f ?_
 refine splitB.mk (fun hb5 => ?_) (fun hb5 => ?_)
 replace h := T_dec hb5 h
 refine splitB_t ?_
 refine splitB_t ?_
 refine splitB_t ?_
 refine splitB_t ?_
 refine splitB_t ?_
 refine splitB_t ?_
 refine splitB_t ?_
 refine splitB_t ?_
 refine splitB_t ?_
 refine splitB_t ?_
 refine splitB_t ?_
 refine splitB_t ?_
 refine .direct ?_
 obtain rfl := Option.some.inj h
 exact ⟨[], .bool false, [], by decide, (show 0 ≤ 0 by decide), .bool_eq rfl, trivial, rfl, rfl⟩
 replace h := F_dec hb5 h
 refine ⟨rfl, ?_⟩
 refine splitB_f ?_
 refine ⟨rfl, _, rfl, ?_⟩
 refine splitB_f ?_
 refine splitB_f ?_
 refine ⟨rfl, ?_⟩
 refine splitB_f ?_
 refine ⟨rfl, _, rfl, ?_⟩
 refine splitB_f ?_
 refine splitB_f ?_
 refine splitB_f ?_
 refine ⟨rfl, ?_⟩
 refine splitB_f ?_
 refine ⟨rfl, _, rfl, ?_⟩
 refine splitB_f ?_
 refine splitB_f ?_
 refine splitB_f ?_
 refine splitB.mk (fun hb6 => ?_) (fun hb6 => ?_)
 replace h := T_dec hb6 h
 refine .direct ?_
 obtain rfl := Option.some.inj h
 exact ⟨[], .bool false, [], by decide, (show 0 ≤ 0 by decide), .bool_eq rfl, trivial, rfl, rfl⟩
 replace h := F_dec hb6 h
 refine .direct ?_
 refine ⟨row (mc (PV.str) (PV.bool)) ([] : List (Str × Bool)), ?_⟩
 obtain ⟨o7, ho8, hk9⟩ := bind_some h
 replace h := ho8
 refine .cut (fun σ η => .inl () = o7 ∧ σ = [(1, .optr 0 0 0 0)] ∧ η = [.row 0 6 1 33 (fun _ => [.str a0.fName, sl 2 TParam.cells a0.fParams, sl 2 TParam.cells a0.fUses, sl 1 cS a0.fSlots, .bool a0.fGen, sl 5 TIns.cells a0.fCode])]) ?_ ?_
 refine .direct ?_
 refine ⟨rfl, ?_⟩
 refine ⟨rfl, _, rfl, ?_⟩
 refine LoopAt.enter [(1, .optr 0 0 0 0), (3, .omp 1), (44, sl 1 cS a0.fSlots), (45, .int .i64 (a0.fSlots.length : Int)), (46, .int .i64 0)] [.row 0 6 1 33 (fun _ => [.str a0.fName, sl 2 TParam.cells a0.fParams, sl 2 TParam.cells a0.fUses, sl 1 cS a0.fSlots, .bool a0.fGen, sl 5 TIns.cells a0.fCode]), .row 0 2 ([] : List (Str × Bool)).length 83 (row (mc (PV.str) (PV.bool)) ([] : List (Str × Bool)))] ⟨[0, 1], by decide, (show 0 ≤ 2 by decide), ⟨.optr_eq rfl ⟨_, _, _, _, rfl⟩ ⟨_, _, _, _, rfl, Nat.zero_lt_one⟩ rfl rfl, .omp_eq rfl ⟨_, _, _, _, _, rfl⟩ ⟨_, _, _, _, _, rfl⟩, .slc_eq rfl (fun _ _ => rfl), .int_eq rfl, .int_eq rfl, trivial⟩, ⟨⟨fun h0 => absurd (show 0 < 0 from h0) (by decide), rfl, .inl rfl, rfl, fun _ _ => ⟨.str_eq rfl, .slc_eq rfl (fun _ _ => rfl), .slc_eq rfl (fun _ _ => rfl), .slc_eq rfl (fun _ _ => rfl), .bool_eq rfl, .slc_eq rfl (fun _ _ => rfl), trivial⟩⟩, ⟨fun h0 => absurd (show 1 < 0 from h0) (by decide), rfl, .inl rfl, rfl, fz_mrow (fun _ => rfl) (fun _ => rfl)⟩, trivial⟩⟩ ?_
 refine m_i_IsFunc_L2.partial_correctness a0 (motive := fun l10 y11 o23 => o7 = o23 → LoopAt _ _ [(1, .optr 0 0 0 0), (3, .omp 1), (44, sl 1 cS a0.fSlots), (45, .int .i64 (a0.fSlots.length : Int)), (46, .int .i64 y11)] [.row 0 6 1 33 (fun _ => [.str a0.fName, sl 2 TParam.cells a0.fParams, sl 2 TParam.cells a0.fUses, sl 1 cS a0.fSlots, .bool a0.fGen, sl 5 TIns.cells a0.fCode]), .row 0 2 l10.length 83 (row (mc (PV.str) (PV.bool)) l10)]) ?_ ([] : List (Str × Bool)) 0 o7 h rfl
 intro F13 ih12 l10 y11 o23 h hr24
 subst hr24
 refine LoopAt.round ?_
 refine .direct ?_
 refine .direct ?_
 refine splitB.mk (fun hb14 => ?_) (fun hb14 => ?_)
 replace h := T_dec hb14 h
 refine .direct ?_
 refine .direct ?_
 obtain ⟨x15, hx16, h⟩ := bind_some h
 refine ⟨idx_bd hx16, _, (idx_row hx16).trans rfl, ?_⟩
 refine .direct ?_
 refine .direct ?_
 refine ⟨.bool (mgd l10 x15 false), mhas l10 x15, mlook_of (ti := tabT.get 9) (c := PV.str) (d := PV.bool) key_str l10 x15 false, ?_⟩
 refine splitB.mk (fun hb17 => ?_) (fun hb17 => ?_)
 replace h := T_var hb17 h
 refine splitB_t ?_
 refine splitB_t ?_
 refine splitB_t ?_
 refine splitB_t ?_
 refine splitB_t ?_
 refine splitB_t ?_
 refine splitB_t ?_
 refine .direct ?_
 obtain rfl := Option.some.inj h
 replace h := hk9
 obtain rfl := Option.some.inj h
 exact ⟨[], .bool false, [], by decide, (show 0 ≤ 0 by decide), .bool_eq rfl, trivial, rfl, rfl⟩
 replace h := F_var hb17 h
 refine splitB_f ?_
 obtain ⟨v18, hv19, h⟩ := bind_some h
 refine ⟨_, ACall.pure0 (ok_i_goodName hv19) _ rfl (fun _ => rfl), ?_⟩
 rintro _ _ ⟨rfl, rfl⟩
 refine splitB_f ?_
 refine splitB_f ?_
 refine splitB.mk (fun hb20 => ?_) (fun hb20 => ?_)
 have hb22 := not_F hb20
 replace h := F_var hb22 h
 refine splitB_t ?_
 refine splitB_t ?_
 refine splitB_t ?_
 refine .direct ?_
 obtain rfl := Option.some.inj h
 replace h := hk9
 obtain rfl := Option.some.inj h
 exact ⟨[], .bool false, [], by decide, (show 0 ≤ 0 by decide), .bool_eq rfl, trivial, rfl, rfl⟩
 have hb22 := not_T hb20
 replace h := T_var hb22 h
 refine splitB_f ?_
 refine splitB_f ?_
 refine splitB.mk (fun hb21 => ?_) (fun hb21 => ?_)
 replace h := T_beq hb21 h
 refine .direct ?_
 obtain rfl := Option.some.inj h
 replace h := hk9
 obtain rfl := Option.some.inj h
 exact ⟨[], .bool false, [], by decide, (show 0 ≤ 0 by decide), .bool_eq rfl, trivial, rfl, rfl⟩
 replace h := F_beq hb21 h
 refine ⟨(mput l10 x15 true).length, row (mc (PV.str) (PV.bool)) (mput l10 x15 true), mupd_of (ti := tabT.get 9) (c := PV.str) (d := PV.bool) key_str l10 x15 true, ?_⟩
 exact ⟨[(1, .optr 0 0 0 0), (3, .omp 1), (44, sl 1 cS a0.fSlots), (45, .int .i64 (a0.fSlots.length : Int)), (46, .int .i64 (W64 (y11 + 1)))], [.row 0 6 1 33 (fun _ => [.str a0.fName, sl 2 TParam.cells a0.fParams, sl 2 TParam.cells a0.fUses, sl 1 cS a0.fSlots, .bool a0.fGen, sl 5 TIns.cells a0.fCode]), .row 0 2 (mput l10 x15 true).length 83 (row (mc (PV.str) (PV.bool)) (mput l10 x15 true))], ⟨[0, 1], by decide, (show 0 ≤ 2 by decide), ⟨.optr_eq rfl ⟨_, _, _, _, rfl⟩ ⟨_, _, _, _, rfl, Nat.zero_lt_one⟩ rfl rfl, .omp_eq rfl ⟨_, _, _, _, _, rfl⟩ ⟨_, _, _, _, _, rfl⟩, .slc_eq rfl (fun _ _ => rfl), .int_eq rfl, .int_eq rfl, trivial⟩, ⟨⟨fun h0 => absurd (show 0 < 0 from h0) (by decide), rfl, .inl rfl, rfl, fun _ _ => ⟨.str_eq rfl, .slc_eq rfl (fun _ _ => rfl), .slc_eq rfl (fun _ _ => rfl), .slc_eq rfl (fun _ _ => rfl), .bool_eq rfl, .slc_eq rfl (fun _ _ => rfl), trivial⟩⟩, ⟨fun h0 => absurd (show 1 < 0 from h0) (by decide), rfl, .inl rfl, rfl, fz_mrow (fun _ => rfl) (fun _ => rfl)⟩, trivial⟩⟩, ih12 _ _ _ h rfl⟩
 replace h := F_dec hb14 h
 exact ⟨[(1, .optr 0 0 0 0)], [.row 0 6 1 33 (fun _ => [.str a0.fName, sl 2 TParam.cells a0.fParams, sl 2 TParam.cells a0.fUses, sl 1 cS a0.fSlots, .bool a0.fGen, sl 5 TIns.cells a0.fCode])], ⟨[0], by decide, (show 0 ≤ 1 by decide), ⟨.optr_eq rfl ⟨_, _, _, _, rfl⟩ ⟨_, _, _, _, rfl, Nat.zero_lt_one⟩ rfl rfl, trivial⟩, ⟨⟨fun h0 => absurd (show 0 < 0 from h0) (by decide), rfl, .inl rfl, rfl, fun _ _ => ⟨.str_eq rfl, .slc_eq rfl (fun _ _ => rfl), .slc_eq rfl (fun _ _ => rfl), .slc_eq rfl (fun _ _ => rfl), .bool_eq rfl, .slc_eq rfl (fun _ _ => rfl), trivial⟩⟩, trivial⟩⟩, Option.some.inj h, rfl, rfl⟩
 rintro _ _ ⟨rfl, rfl, rfl⟩
 replace h := hk9
 obtain ⟨o25, ho26, hk27⟩ := bind_some h
 replace h := ho26
 refine .cut (fun σ η => .inl () = o25 ∧ σ = [(1, .optr 0 0 0 0)] ∧ η = [.row 0 6 1 33 (fun _ => [.str a0.fName, sl 2 TParam.cells a0.fParams, sl 2 TParam.cells a0.fUses, sl 1 cS a0.fSlots, .bool a0.fGen, sl 5 TIns.cells a0.fCode])]) ?_ ?_
 refine .direct ?_
 refine .float [(0, true), (1, true), (3, true), (4, true), (7, true), (2, false), (5, false), (6, true)] (by kernel_rfl) ?_
 refine ⟨rfl, ?_⟩
 refine ⟨rfl, _, rfl, ?_⟩
 refine ⟨rfl, ?_⟩
 refine ⟨rfl, _, rfl, ?_⟩
 obtain ⟨v28, hv29, h⟩ := bind_some h
 refine ⟨fun res h' => res = .own 1 0 0 v28.length ∧ h' = [.row 0 6 1 33 (fun _ => [.str a0.fName, sl 2 TParam.cells a0.fParams, sl 2 TParam.cells a0.fUses, sl 1 cS a0.fSlots, .bool a0.fGen, sl 5 TIns.cells a0.fCode]), .row 0 2 v28.length 75 (row TParam.cells v28)], (ACall.frame (ok_CloneP hv29) [.row 0 6 1 33 (fun _ => [.str a0.fName, sl 2 TParam.cells a0.fParams, sl 2 TParam.cells a0.fUses, sl 1 cS a0.fSlots, .bool a0.fGen, sl 5 TIns.cells a0.fCode])] rfl).mono (by rintro _ _ ⟨_, _, ⟨rfl, rfl⟩, rfl, rfl⟩; exact ⟨rfl, by simp only [List.map_cons, List.map_nil, shiftO_row TParam.cells_pure]; rfl⟩), ?_⟩
 rintro _ _ ⟨rfl, rfl⟩
 refine ⟨rfl, ?_⟩
 refine ⟨rfl, ?_⟩
 obtain ⟨l30, hx31, h⟩ := bind_some h
 refine ⟨rfl, lapp_bd hx31, l30.length, row TParam.cells l30, lapp_len hx31, lapp_row hx31 shows_all src_slc, ?_⟩
 refine ⟨rfl, ?_⟩
 refine LoopAt.enter [(1, .optr 0 0 0 0), (70, .own 1 0 0 l30.length), (71, .int .i64 (l30.length : Int)), (72, .int .i64 0)] [.row 0 6 1 33 (fun _ => [.str a0.fName, sl 2 TParam.cells a0.fParams, sl 2 TParam.cells a0.fUses, sl 1 cS a0.fSlots, .bool a0.fGen, sl 5 TIns.cells a0.fCode]), .row 0 2 l30.length 75 (row TParam.cells l30)] ⟨[0, 1], by decide, (show 0 ≤ 2 by decide), ⟨.optr_eq rfl ⟨_, _, _, _, rfl⟩ ⟨_, _, _, _, rfl, Nat.zero_lt_one⟩ rfl rfl, .own_eq rfl ⟨_, _, _, _, rfl⟩ ⟨_, _, _, _, rfl, Nat.le_of_eq (Nat.zero_add _)⟩ rfl rfl, .int_eq rfl, .int_eq rfl, trivial⟩, ⟨⟨fun h0 => absurd (show 0 < 0 from h0) (by decide), rfl, .inl rfl, rfl, fun _ _ => ⟨.str_eq rfl, .slc_eq rfl (fun _ _ => rfl), .slc_eq rfl (fun _ _ => rfl), .slc_eq rfl (fun _ _ => rfl), .bool_eq rfl, .slc_eq rfl (fun _ _ => rfl), trivial⟩⟩, ⟨fun h0 => absurd (show 1 < 0 from h0) (by decide), rfl, .inl rfl, rfl, fz_row TParam.cells_pure⟩, trivial⟩⟩ ?_
 refine m_i_IsFunc_L4.partial_correctness a0 l30 (motive := fun y32 o42 => o25 = o42 → LoopAt _ _ [(1, .optr 0 0 0 0), (70, .own 1 0 0 l30.length), (71, .int .i64 (l30.length : Int)), (72, .int .i64 y32)] [.row 0 6 1 33 (fun _ => [.str a0.fName, sl 2 TParam.cells a0.fParams, sl 2 TParam.cells a0.fUses, sl 1 cS a0.fSlots, .bool a0.fGen, sl 5 TIns.cells a0.fCode]), .row 0 2 l30.length 75 (row TParam.cells l30)]) ?_ 0 o25 h rfl
 intro F34 ih33 y32 o42 h hr43
 subst hr43
 refine LoopAt.round ?_
 refine .direct ?_
 refine .direct ?_
 refine splitB.mk (fun hb35 => ?_) (fun hb35 => ?_)
 replace h := T_dec hb35 h
 refine .direct ?_
 refine .direct ?_
 obtain ⟨x36, hx37, h⟩ := bind_some h
 refine ⟨rfl, idx_bd hx37, _, Nat.zero_add _, ?_⟩
 refine ⟨rfl, _, ((idx_row hx37).trans (TParam.cells_eq x36)), ?_⟩
 refine ⟨rfl, _, fun _ => [.str x36.fName, .bool x36.fRef], rfl, one_set rfl, ?_⟩
 refine .direct ?_
 refine ⟨rfl, ?_⟩
 refine ⟨rfl, _, rfl, ?_⟩
 obtain ⟨x38, hx39, h⟩ := bind_some h
 refine ⟨idx_bd hx39, _, (idx_row hx39).trans rfl, ?_⟩
 refine ⟨rfl, ?_⟩
 refine ⟨rfl, _, rfl, ?_⟩
 refine splitB.mk (fun hb40 => ?_) (fun hb40 => ?_)
 have hb41 := not_F hb40
 replace h := F_beq hb41 h
 refine .direct ?_
 obtain rfl := Option.some.inj h
 replace h := hk27
 obtain rfl := Option.some.inj h
 exact ⟨[], .bool false, [], by decide, (show 0 ≤ 0 by decide), .bool_eq rfl, trivial, rfl, rfl⟩
 have hb41 := not_T hb40
 replace h := T_beq hb41 h
 exact ⟨[(1, .optr 0 0 0 0), (70, .own 1 0 0 l30.length), (71, .int .i64 (l30.length : Int)), (72, .int .i64 (W64 (y32 + 1)))], [.row 0 6 1 33 (fun _ => [.str a0.fName, sl 2 TParam.cells a0.fParams, sl 2 TParam.cells a0.fUses, sl 1 cS a0.fSlots, .bool a0.fGen, sl 5 TIns.cells a0.fCode]), .row 0 2 l30.length 75 (row TParam.cells l30)], ⟨[0, 1], by decide, (show 0 ≤ 2 by decide), ⟨.optr_eq rfl ⟨_, _, _, _, rfl⟩ ⟨_, _, _, _, rfl, Nat.zero_lt_one⟩ rfl rfl, .own_eq rfl ⟨_, _, _, _, rfl⟩ ⟨_, _, _, _, rfl, Nat.le_of_eq (Nat.zero_add _)⟩ rfl rfl, .int_eq rfl, .int_eq rfl, trivial⟩, ⟨⟨fun h0 => absurd (show 0 < 0 from h0) (by decide), rfl, .inl rfl, rfl, fun _ _ => ⟨.str_eq rfl, .slc_eq rfl (fun _ _ => rfl), .slc_eq rfl (fun _ _ => rfl), .slc_eq rfl (fun _ _ => rfl), .bool_eq rfl, .slc_eq rfl (fun _ _ => rfl), trivial⟩⟩, ⟨fun h0 => absurd (show 1 < 0 from h0) (by decide), rfl, .inl rfl, rfl, fz_row TParam.cells_pure⟩, trivial⟩⟩, ih33 _ _ h rfl⟩
 replace h := F_dec hb35 h
 exact ⟨[(1, .optr 0 0 0 0)], [.row 0 6 1 33 (fun _ => [.str a0.fName, sl 2 TParam.cells a0.fParams, sl 2 TParam.cells a0.fUses, sl 1 cS a0.fSlots, .bool a0.fGen, sl 5 TIns.cells a0.fCode])], ⟨[0], by decide, (show 0 ≤ 1 by decide), ⟨.optr_eq rfl ⟨_, _, _, _, rfl⟩ ⟨_, _, _, _, rfl, Nat.zero_lt_one⟩ rfl rfl, trivial⟩, ⟨⟨fun h0 => absurd (show 0 < 0 from h0) (by decide), rfl, .inl rfl, rfl, fun _ _ => ⟨.str_eq rfl, .slc_eq rfl (fun _ _ => rfl), .slc_eq rfl (fun _ _ => rfl), .slc_eq rfl (fun _ _ => rfl), .bool_eq rfl, .slc_eq rfl (fun _ _ => rfl), trivial⟩⟩, trivial⟩⟩, Option.some.inj h, rfl, rfl⟩
 rintro _ _ ⟨rfl, rfl, rfl⟩
 replace h := hk27
 obtain ⟨o44, ho45, hk46⟩ := bind_some h
 replace h := ho45
 refine .cut (fun σ η => .inl () = o44 ∧ σ = [(1, .optr 0 0 0 0)] ∧ η = [.row 0 6 1 33 (fun _ => [.str a0.fName, sl 2 TParam.cells a0.fParams, sl 2 TParam.cells a0.fUses, sl 1 cS a0.fSlots, .bool a0.fGen, sl 5 TIns.cells a0.fCode])]) ?_ ?_
 refine .direct ?_
 refine ⟨rfl, ?_⟩
 refine ⟨rfl, _, rfl, ?_⟩
 refine LoopAt.enter [(1, .optr 0 0 0 0), (87, sl 5 TIns.cells a0.fCode), (88, .int .i64 (a0.fCode.length : Int)), (89, .int .i64 0)] [.row 0 6 1 33 (fun _ => [.str a0.fName, sl 2 TParam.cells a0.fParams, sl 2 TParam.cells a0.fUses, sl 1 cS a0.fSlots, .bool a0.fGen, sl 5 TIns.cells a0.fCode])] ⟨[0], by decide, (show 0 ≤ 1 by decide), ⟨.optr_eq rfl ⟨_, _, _, _, rfl⟩ ⟨_, _, _, _, rfl, Nat.zero_lt_one⟩ rfl rfl, .slc_eq rfl (fun _ _ => rfl), .int_eq rfl, .int_eq rfl, trivial⟩, ⟨⟨fun h0 => absurd (show 0 < 0 from h0) (by decide), rfl, .inl rfl, rfl, fun _ _ => ⟨.str_eq rfl, .slc_eq rfl (fun _ _ => rfl), .slc_eq rfl (fun _ _ => rfl), .slc_eq rfl (fun _ _ => rfl), .bool_eq rfl, .slc_eq rfl (fun _ _ => rfl), trivial⟩⟩, trivial⟩⟩ ?_
 refine m_i_IsFunc_L6.partial_correctness a0 (motive := fun y47 o56 => o44 = o56 → LoopAt _ _ [(1, .optr 0 0 0 0), (87, sl 5 TIns.cells a0.fCode), (88, .int .i64 (a0.fCode.length : Int)), (89, .int .i64 y47)] [.row 0 6 1 33 (fun _ => [.str a0.fName, sl 2 TParam.cells a0.fParams, sl 2 TParam.cells a0.fUses, sl 1 cS a0.fSlots, .bool a0.fGen, sl 5 TIns.cells a0.fCode])]) ?_ 0 o44 h rfl
 intro F49 ih48 y47 o56 h hr57
 subst hr57
 refine LoopAt.round ?_
 refine .direct ?_
 refine .direct ?_
 refine splitB.mk (fun hb50 => ?_) (fun hb50 => ?_)
 replace h := T_dec hb50 h
 refine .direct ?_
 refine .direct ?_
 obtain ⟨x51, hx52, h⟩ := bind_some h
 refine ⟨idx_bd hx52, _, (idx_row hx52).trans (TIns.cells_eq x51), ?_⟩
 refine ⟨rfl, _, fun _ => [.int .i64 x51.fOp, .int .i64 x51.fA, .int .i64 x51.fB, .str x51.fS, .str x51.fT], rfl, one_set rfl, ?_⟩
 refine .direct ?_
 refine ⟨rfl, ?_⟩
 refine ⟨rfl, _, rfl, ?_⟩
 refine splitB.mk (fun hb53 => ?_) (fun hb53 => ?_)
 replace h := T_beq hb53 h
 refine ⟨rfl, ?_⟩
 refine splitB_t ?_
 refine ⟨rfl, _, rfl, ?_⟩
 refine splitB_t ?_
 refine splitB_t ?_
 refine splitB.mk (fun hb54 => ?_) (fun hb54 => ?_)
 have hb55 := not_F hb54
 replace h := F_var hb55 h
 refine .direct ?_
 obtain rfl := Option.some.inj h
 replace h := hk46
 obtain rfl := Option.some.inj h
 exact ⟨[], .bool false, [], by decide, (show 0 ≤ 0 by decide), .bool_eq rfl, trivial, rfl, rfl⟩
 have hb55 := not_T hb54
 replace h := T_var hb55 h
 exact ⟨[(1, .optr 0 0 0 0), (87, sl 5 TIns.cells a0.fCode), (88, .int .i64 (a0.fCode.length : Int)), (89, .int .i64 (W64 (y47 + 1)))], [.row 0 6 1 33 (fun _ => [.str a0.fName, sl 2 TParam.cells a0.fParams, sl 2 TParam.cells a0.fUses, sl 1 cS a0.fSlots, .bool a0.fGen, sl 5 TIns.cells a0.fCode])], ⟨[0], by decide, (show 0 ≤ 1 by decide), ⟨.optr_eq rfl ⟨_, _, _, _, rfl⟩ ⟨_, _, _, _, rfl, Nat.zero_lt_one⟩ rfl rfl, .slc_eq rfl (fun _ _ => rfl), .int_eq rfl, .int_eq rfl, trivial⟩, ⟨⟨fun h0 => absurd (show 0 < 0 from h0) (by decide), rfl, .inl rfl, rfl, fun _ _ => ⟨.str_eq rfl, .slc_eq rfl (fun _ _ => rfl), .slc_eq rfl (fun _ _ => rfl), .slc_eq rfl (fun _ _ => rfl), .bool_eq rfl, .slc_eq rfl (fun _ _ => rfl), trivial⟩⟩, trivial⟩⟩, ih48 _ _ h rfl⟩
 replace h := F_beq hb53 h
 refine splitB_f ?_
 refine splitB_f ?_
 refine splitB_f ?_
 refine splitB_f ?_
 exact ⟨[(1, .optr 0 0 0 0), (87, sl 5 TIns.cells a0.fCode), (88, .int .i64 (a0.fCode.length : Int)), (89, .int .i64 (W64 (y47 + 1)))], [.row 0 6 1 33 (fun _ => [.str a0.fName, sl 2 TParam.cells a0.fParams, sl 2 TParam.cells a0.fUses, sl 1 cS a0.fSlots, .bool a0.fGen, sl 5 TIns.cells a0.fCode])], ⟨[0], by decide, (show 0 ≤ 1 by decide), ⟨.optr_eq rfl ⟨_, _, _, _, rfl⟩ ⟨_, _, _, _, rfl, Nat.zero_lt_one⟩ rfl rfl, .slc_eq rfl (fun _ _ => rfl), .int_eq rfl, .int_eq rfl, trivial⟩, ⟨⟨fun h0 => absurd (show 0 < 0 from h0) (by decide), rfl, .inl rfl, rfl, fun _ _ => ⟨.str_eq rfl, .slc_eq rfl (fun _ _ => rfl), .slc_eq rfl (fun _ _ => rfl), .slc_eq rfl (fun _ _ => rfl), .bool_eq rfl, .slc_eq rfl (fun _ _ => rfl), trivial⟩⟩, trivial⟩⟩, ih48 _ _ h rfl⟩
 replace h := F_dec hb50 h
 exact ⟨[(1, .optr 0 0 0 0)], [.row 0 6 1 33 (fun _ => [.str a0.fName, sl 2 TParam.cells a0.fParams, sl 2 TParam.cells a0.fUses, sl 1 cS a0.fSlots, .bool a0.fGen, sl 5 TIns.cells a0.fCode])], ⟨[0], by decide, (show 0 ≤ 1 by decide), ⟨.optr_eq rfl ⟨_, _, _, _, rfl⟩ ⟨_, _, _, _, rfl, Nat.zero_lt_one⟩ rfl rfl, trivial⟩, ⟨⟨fun h0 => absurd (show 0 < 0 from h0) (by decide), rfl, .inl rfl, rfl, fun _ _ => ⟨.str_eq rfl, .slc_eq rfl (fun _ _ => rfl), .slc_eq rfl (fun _ _ => rfl), .slc_eq rfl (fun _ _ => rfl), .bool_eq rfl, .slc_eq rfl (fun _ _ => rfl), trivial⟩⟩, trivial⟩⟩, Option.some.inj h, rfl, rfl⟩
 rintro _ _ ⟨rfl, rfl, rfl⟩
 replace h := hk46
 refine .direct ?_
 refine .direct ?_
 refine ⟨rfl, _, rfl, ?_⟩
 obtain ⟨v58, hv59, h⟩ := bind_some h
 refine ⟨_, ACall.pure0 (ok_i_isFile hv59) _ rfl (fun _ => rfl), ?_⟩
 rintro _ _ ⟨rfl, rfl⟩
 refine splitB.mk (fun hb60 => ?_) (fun hb60 => ?_)
 replace h := T_var hb60 h
 refine ⟨rfl, ?_⟩
 refine splitB_t ?_
 refine ⟨rfl, _, rfl, ?_⟩
 refine splitB_t ?_
 refine splitB_t ?_
 refine splitB_t ?_
 refine splitB.mk (fun hb61 => ?_) (fun hb61 => ?_)
 replace h := T_dec hb61 h
 refine splitB_t ?_
 refine splitB_t ?_
 refine splitB_t ?_
 refine splitB_t ?_
 refine splitB_t ?_
 refine .direct ?_
 obtain rfl := Option.some.inj h
 exact ⟨[], .bool false, [], by decide, (show 0 ≤ 0 by decide), .bool_eq rfl, trivial, rfl, rfl⟩
 replace h := F_dec hb61 h
 refine ⟨rfl, ?_⟩
 refine splitB_f ?_
 refine ⟨rfl, _, rfl, ?_⟩
 refine splitB_t ?_
 refine splitB_f ?_
 refine splitB_t ?_
 refine splitB.mk (fun hb62 => ?_) (fun hb62 => ?_)
 replace h := T_var hb62 h
 refine .direct ?_
 obtain rfl := Option.some.inj h
 exact ⟨[], .bool false, [], by decide, (show 0 ≤ 0 by decide), .bool_eq rfl, trivial, rfl, rfl⟩
 replace h := F_var hb62 h
 refine .direct ?_
 refine ⟨rfl, _, rfl, ?_⟩
 obtain ⟨⟨v63, v64⟩, hv65, h⟩ := bind_some h
 refine ⟨_, ACall.pure0 (ok_i_HeightsOf hv65) _ rfl (fun _ => rfl), ?_⟩
 rintro _ _ ⟨rfl, rfl⟩
 refine .direct ?_
 obtain rfl := Option.some.inj h
 exact ⟨[], .bool v64, [], by decide, (show 0 ≤ 0 by decide), .bool_eq rfl, trivial, rfl, rfl⟩
 replace h := F_var hb60 h
 refine splitB_f ?_
 refine splitB_f ?_
 refine splitB_f ?_
 refine splitB_f ?_
 refine splitB_f ?_
 refine splitB_f ?_
 refine splitB_f ?_
 refine .direct ?_
 refine ⟨rfl, _, rfl, ?_⟩
 obtain ⟨⟨v66, v67⟩, hv68, h⟩ := bind_some h
 refine ⟨_, ACall.pure0 (ok_i_HeightsOf hv68) _ rfl (fun _ => rfl), ?_⟩
 rintro _ _ ⟨rfl, rfl⟩
 refine .direct ?_
 obtain rfl := Option.some.inj h
 exact ⟨[], .bool v67, [], by decide, (show 0 ≤ 0 by decide), .bool_eq rfl, trivial, rfl, rfl⟩
end Go.Am
