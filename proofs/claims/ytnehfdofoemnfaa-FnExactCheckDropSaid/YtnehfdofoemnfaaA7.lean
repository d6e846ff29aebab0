/- Models of Go functions, and their walks. (Printed by tools/mg.py.) -/
import Derived.Test.YtnehfdofoemnfaaA6
set_option linter.unusedVariables false
set_option linter.unusedSimpArgs false
set_option maxRecDepth 100000
namespace Go.Am
open Go Go.RowKit Go.Proofs

def m_l_szIns (a0 : TIns) (a1 : Int) : Option (Int) :=
 (if (W64 (a1 - (a0.fS.length : Int))) < 0 then
 some (-1)
 else
 (if (W64 ((W64 (a1 - (a0.fS.length : Int))) - (a0.fT.length : Int))) < 0 then
 some (-1)
 else
 some (W64 ((W64 (a1 - (a0.fS.length : Int))) - (a0.fT.length : Int)))))
theorem ok_l_szIns {a0 : TIns} {a1 : Int} {r : Int} (h : m_l_szIns a0 a1 = some r) : ACall Try.prog 55 [.agg [.int .i64 a0.fOp, .int .i64 a0.fA, .int .i64 a0.fB, .str a0.fS, .str a0.fT], .int .i64 a1] [] (fun res h => res = .int .i64 r ∧ h = []) := by
 refine ACall.of_vc tabT_ok mixed Try.func55 rfl (by kernel_rfl) _ _ _ rfl (by kernel_rfl) ?_
 unfold m_l_szIns at h
 refine .direct ?_
 refine .direct ?_
 refine ⟨rfl, ?_⟩
 refine ⟨rfl, _, rfl, ?_⟩
 refine .direct ?_
 refine .direct ?_
 refine splitB.mk (fun hb1 => ?_) (fun hb1 => ?_)
 replace h := T_dec hb1 h
 refine .direct ?_
 obtain rfl := Option.some.inj h
 exact ⟨[], .int .i64 (-1), [], by decide, (show 0 ≤ 0 by decide), .int_eq rfl, trivial, rfl, rfl⟩
 replace h := F_dec hb1 h
 refine .direct ?_
 refine ⟨rfl, ?_⟩
 refine ⟨rfl, _, rfl, ?_⟩
 refine .direct ?_
 refine .direct ?_
 refine splitB.mk (fun hb2 => ?_) (fun hb2 => ?_)
 replace h := T_dec hb2 h
 refine .direct ?_
 obtain rfl := Option.some.inj h
 exact ⟨[], .int .i64 (-1), [], by decide, (show 0 ≤ 0 by decide), .int_eq rfl, trivial, rfl, rfl⟩
 replace h := F_dec hb2 h
 refine .direct ?_
 obtain rfl := Option.some.inj h
 exact ⟨[], .int .i64 (W64 ((W64 (a1 - (a0.fS.length : Int))) - (a0.fT.length : Int))), [], by decide, (show 0 ≤ 0 by decide), .int_eq rfl, trivial, rfl, rfl⟩
def m_l_szParam (a0 : TParam) (a1 : Int) : Option (Int) :=
 (if (W64 (a1 - (a0.fName.length : Int))) < 0 then
 some (-1)
 else
 some (W64 (a1 - (a0.fName.length : Int))))
theorem ok_l_szParam {a0 : TParam} {a1 : Int} {r : Int} (h : m_l_szParam a0 a1 = some r) : ACall Try.prog 54 [.agg [.str a0.fName, .bool a0.fRef], .int .i64 a1] [] (fun res h => res = .int .i64 r ∧ h = []) := by
 refine ACall.of_vc tabT_ok mixed Try.func54 rfl (by kernel_rfl) _ _ _ rfl (by kernel_rfl) ?_
 unfold m_l_szParam at h
 refine .direct ?_
 refine .direct ?_
 refine ⟨rfl, ?_⟩
 refine ⟨rfl, _, rfl, ?_⟩
 refine .direct ?_
 refine .direct ?_
 refine splitB.mk (fun hb1 => ?_) (fun hb1 => ?_)
 replace h := T_dec hb1 h
 refine .direct ?_
 obtain rfl := Option.some.inj h
 exact ⟨[], .int .i64 (-1), [], by decide, (show 0 ≤ 0 by decide), .int_eq rfl, trivial, rfl, rfl⟩
 replace h := F_dec hb1 h
 refine .direct ?_
 obtain rfl := Option.some.inj h
 exact ⟨[], .int .i64 (W64 (a1 - (a0.fName.length : Int))), [], by decide, (show 0 ≤ 0 by decide), .int_eq rfl, trivial, rfl, rfl⟩
def m_l_szInsS_L2 (a0 : List TIns) (y6 : Int) (y7 : Int) : Option ((Int) ⊕ Int) :=
 (if y7 < (a0.length : Int) then
 idx a0 y7 >>= fun x11 =>
 m_l_szIns x11 y6 >>= fun v13 =>
 (if v13 < 0 then
 some (.inr (-1))
 else
 m_l_szInsS_L2 a0 v13 (W64 (y7 + 1)))
 else
 some (.inl y6))
partial_fixpoint
def m_l_szInsS (a0 : List TIns) (a1 : Int) : Option (Int) :=
 (if (W64 (a1 - (a0.length : Int))) < 0 then
 some (-1)
 else
 ((
 m_l_szInsS_L2 a0 (W64 (a1 - (a0.length : Int))) 0
 : Option ((Int) ⊕ Int)) >>= fun o3 => match o3 with
 | .inr r => some r
 | .inl y2 =>
 some y2
 ))
theorem ok_l_szInsS {a0 : List TIns} {a1 : Int} {r : Int} (h : m_l_szInsS a0 a1 = some r) : ACall Try.prog 26 [sl 5 TIns.cells a0, .int .i64 a1] [] (fun res h => res = .int .i64 r ∧ h = []) := by
 refine ACall.of_vc tabT_ok mixed Try.func26 rfl (by kernel_rfl) _ _ _ rfl (by kernel_rfl) ?_
 unfold m_l_szInsS at h
 refine .direct ?_
 refine .direct ?_
 refine .direct ?_
 refine .direct ?_
 refine splitB.mk (fun hb1 => ?_) (fun hb1 => ?_)
 replace h := T_dec hb1 h
 refine .direct ?_
 obtain rfl := Option.some.inj h
 exact ⟨[], .int .i64 (-1), [], by decide, (show 0 ≤ 0 by decide), .int_eq rfl, trivial, rfl, rfl⟩
 replace h := F_dec hb1 h
 obtain ⟨o3, ho4, hk5⟩ := bind_some h
 replace h := ho4
 refine .cut (fun σ η => ∃ y2, .inl y2 = o3 ∧ σ = [(1, .int .i64 y2)] ∧ η = []) ?_ ?_
 refine .direct ?_
 refine LoopAt.enter [(0, sl 5 TIns.cells a0), (1, .int .i64 (W64 (a1 - (a0.length : Int)))), (5, .int .i64 0)] [] ⟨[], by decide, (show 0 ≤ 0 by decide), ⟨.slc_eq rfl (fun _ _ => rfl), .int_eq rfl, .int_eq rfl, trivial⟩, trivial⟩ ?_
 refine m_l_szInsS_L2.partial_correctness a0 (motive := fun y6 y7 o16 => o3 = o16 → LoopAt _ _ [(0, sl 5 TIns.cells a0), (1, .int .i64 y6), (5, .int .i64 y7)] []) ?_ (W64 (a1 - (a0.length : Int))) 0 o3 h rfl
 intro F9 ih8 y6 y7 o16 h hr17
 subst hr17
 refine LoopAt.round ?_
 refine .direct ?_
 refine .direct ?_
 refine splitB.mk (fun hb10 => ?_) (fun hb10 => ?_)
 replace h := T_dec hb10 h
 refine .direct ?_
 refine .direct ?_
 obtain ⟨x11, hx12, h⟩ := bind_some h
 refine ⟨idx_bd hx12, _, (idx_row hx12).trans (TIns.cells_eq x11), ?_⟩
 obtain ⟨v13, hv14, h⟩ := bind_some h
 refine ⟨_, ACall.pure0 (ok_l_szIns hv14) _ rfl (fun _ => rfl), ?_⟩
 rintro _ _ ⟨rfl, rfl⟩
 refine .direct ?_
 refine splitB.mk (fun hb15 => ?_) (fun hb15 => ?_)
 replace h := T_dec hb15 h
 refine .direct ?_
 obtain rfl := Option.some.inj h
 replace h := hk5
 obtain rfl := Option.some.inj h
 exact ⟨[], .int .i64 (-1), [], by decide, (show 0 ≤ 0 by decide), .int_eq rfl, trivial, rfl, rfl⟩
 replace h := F_dec hb15 h
 exact ⟨[(0, sl 5 TIns.cells a0), (1, .int .i64 v13), (5, .int .i64 (W64 (y7 + 1)))], [], ⟨[], by decide, (show 0 ≤ 0 by decide), ⟨.slc_eq rfl (fun _ _ => rfl), .int_eq rfl, .int_eq rfl, trivial⟩, trivial⟩, ih8 _ _ _ h rfl⟩
 replace h := F_dec hb10 h
 exact ⟨[(1, .int .i64 y6)], [], ⟨[], by decide, (show 0 ≤ 0 by decide), ⟨.int_eq rfl, trivial⟩, trivial⟩, y6, Option.some.inj h, rfl, rfl⟩
 rintro _ _ ⟨y2, rfl, rfl, rfl⟩
 replace h := hk5
 refine .direct ?_
 obtain rfl := Option.some.inj h
 exact ⟨[], .int .i64 y2, [], by decide, (show 0 ≤ 0 by decide), .int_eq rfl, trivial, rfl, rfl⟩
def m_l_szParamS_L2 (a0 : List TParam) (y6 : Int) (y7 : Int) : Option ((Int) ⊕ Int) :=
 (if y7 < (a0.length : Int) then
 idx a0 y7 >>= fun x11 =>
 m_l_szParam x11 y6 >>= fun v13 =>
 (if v13 < 0 then
 some (.inr (-1))
 else
 m_l_szParamS_L2 a0 v13 (W64 (y7 + 1)))
 else
 some (.inl y6))
partial_fixpoint
def m_l_szParamS (a0 : List TParam) (a1 : Int) : Option (Int) :=
 (if (W64 (a1 - (a0.length : Int))) < 0 then
 some (-1)
 else
 ((
 m_l_szParamS_L2 a0 (W64 (a1 - (a0.length : Int))) 0
 : Option ((Int) ⊕ Int)) >>= fun o3 => match o3 with
 | .inr r => some r
 | .inl y2 =>
 some y2
 ))
theorem ok_l_szParamS {a0 : List TParam} {a1 : Int} {r : Int} (h : m_l_szParamS a0 a1 = some r) : ACall Try.prog 24 [sl 2 TParam.cells a0, .int .i64 a1] [] (fun res h => res = .int .i64 r ∧ h = []) := by
 refine ACall.of_vc tabT_ok mixed Try.func24 rfl (by kernel_rfl) _ _ _ rfl (by kernel_rfl) ?_
 unfold m_l_szParamS at h
 refine .direct ?_
 refine .direct ?_
 refine .direct ?_
 refine .direct ?_
 refine splitB.mk (fun hb1 => ?_) (fun hb1 => ?_)
 replace h := T_dec hb1 h
 refine .direct ?_
 obtain rfl := Option.some.inj h
 exact ⟨[], .int .i64 (-1), [], by decide, (show 0 ≤ 0 by decide), .int_eq rfl, trivial, rfl, rfl⟩
 replace h := F_dec hb1 h
 obtain ⟨o3, ho4, hk5⟩ := bind_some h
 replace h := ho4
 refine .cut (fun σ η => ∃ y2, .inl y2 = o3 ∧ σ = [(1, .int .i64 y2)] ∧ η = []) ?_ ?_
 refine .direct ?_
 refine LoopAt.enter [(0, sl 2 TParam.cells a0), (1, .int .i64 (W64 (a1 - (a0.length : Int)))), (5, .int .i64 0)] [] ⟨[], by decide, (show 0 ≤ 0 by decide), ⟨.slc_eq rfl (fun _ _ => rfl), .int_eq rfl, .int_eq rfl, trivial⟩, trivial⟩ ?_
 refine m_l_szParamS_L2.partial_correctness a0 (motive := fun y6 y7 o16 => o3 = o16 → LoopAt _ _ [(0, sl 2 TParam.cells a0), (1, .int .i64 y6), (5, .int .i64 y7)] []) ?_ (W64 (a1 - (a0.length : Int))) 0 o3 h rfl
 intro F9 ih8 y6 y7 o16 h hr17
 subst hr17
 refine LoopAt.round ?_
 refine .direct ?_
 refine .direct ?_
 refine splitB.mk (fun hb10 => ?_) (fun hb10 => ?_)
 replace h := T_dec hb10 h
 refine .direct ?_
 refine .direct ?_
 obtain ⟨x11, hx12, h⟩ := bind_some h
 refine ⟨idx_bd hx12, _, (idx_row hx12).trans (TParam.cells_eq x11), ?_⟩
 obtain ⟨v13, hv14, h⟩ := bind_some h
 refine ⟨_, ACall.pure0 (ok_l_szParam hv14) _ rfl (fun _ => rfl), ?_⟩
 rintro _ _ ⟨rfl, rfl⟩
 refine .direct ?_
 refine splitB.mk (fun hb15 => ?_) (fun hb15 => ?_)
 replace h := T_dec hb15 h
 refine .direct ?_
 obtain rfl := Option.some.inj h
 replace h := hk5
 obtain rfl := Option.some.inj h
 exact ⟨[], .int .i64 (-1), [], by decide, (show 0 ≤ 0 by decide), .int_eq rfl, trivial, rfl, rfl⟩
 replace h := F_dec hb15 h
 exact ⟨[(0, sl 2 TParam.cells a0), (1, .int .i64 v13), (5, .int .i64 (W64 (y7 + 1)))], [], ⟨[], by decide, (show 0 ≤ 0 by decide), ⟨.slc_eq rfl (fun _ _ => rfl), .int_eq rfl, .int_eq rfl, trivial⟩, trivial⟩, ih8 _ _ _ h rfl⟩
 replace h := F_dec hb10 h
 exact ⟨[(1, .int .i64 y6)], [], ⟨[], by decide, (show 0 ≤ 0 by decide), ⟨.int_eq rfl, trivial⟩, trivial⟩, y6, Option.some.inj h, rfl, rfl⟩
 rintro _ _ ⟨y2, rfl, rfl, rfl⟩
 replace h := hk5
 refine .direct ?_
 obtain rfl := Option.some.inj h
 exact ⟨[], .int .i64 y2, [], by decide, (show 0 ≤ 0 by decide), .int_eq rfl, trivial, rfl, rfl⟩
def m_l_szStringS_L2 (a0 : List Str) (y6 : Int) (y7 : Int) : Option ((Int) ⊕ Int) :=
 (if y7 < (a0.length : Int) then
 idx a0 y7 >>= fun x11 =>
 (if (W64 (y6 - (x11.length : Int))) < 0 then
 some (.inr (-1))
 else
 m_l_szStringS_L2 a0 (W64 (y6 - (x11.length : Int))) (W64 (y7 + 1)))
 else
 some (.inl y6))
partial_fixpoint
def m_l_szStringS (a0 : List Str) (a1 : Int) : Option (Int) :=
 (if (W64 (a1 - (a0.length : Int))) < 0 then
 some (-1)
 else
 ((
 m_l_szStringS_L2 a0 (W64 (a1 - (a0.length : Int))) 0
 : Option ((Int) ⊕ Int)) >>= fun o3 => match o3 with
 | .inr r => some r
 | .inl y2 =>
 some y2
 ))
theorem ok_l_szStringS {a0 : List Str} {a1 : Int} {r : Int} (h : m_l_szStringS a0 a1 = some r) : ACall Try.prog 25 [sl 1 cS a0, .int .i64 a1] [] (fun res h => res = .int .i64 r ∧ h = []) := by
 refine ACall.of_vc tabT_ok mixed Try.func25 rfl (by kernel_rfl) _ _ _ rfl (by kernel_rfl) ?_
 unfold m_l_szStringS at h
 refine .direct ?_
 refine .direct ?_
 refine .direct ?_
 refine .direct ?_
 refine splitB.mk (fun hb1 => ?_) (fun hb1 => ?_)
 replace h := T_dec hb1 h
 refine .direct ?_
 obtain rfl := Option.some.inj h
 exact ⟨[], .int .i64 (-1), [], by decide, (show 0 ≤ 0 by decide), .int_eq rfl, trivial, rfl, rfl⟩
 replace h := F_dec hb1 h
 obtain ⟨o3, ho4, hk5⟩ := bind_some h
 replace h := ho4
 refine .cut (fun σ η => ∃ y2, .inl y2 = o3 ∧ σ = [(1, .int .i64 y2)] ∧ η = []) ?_ ?_
 refine .direct ?_
 refine LoopAt.enter [(0, sl 1 cS a0), (1, .int .i64 (W64 (a1 - (a0.length : Int)))), (5, .int .i64 0)] [] ⟨[], by decide, (show 0 ≤ 0 by decide), ⟨.slc_eq rfl (fun _ _ => rfl), .int_eq rfl, .int_eq rfl, trivial⟩, trivial⟩ ?_
 refine m_l_szStringS_L2.partial_correctness a0 (motive := fun y6 y7 o14 => o3 = o14 → LoopAt _ _ [(0, sl 1 cS a0), (1, .int .i64 y6), (5, .int .i64 y7)] []) ?_ (W64 (a1 - (a0.length : Int))) 0 o3 h rfl
 intro F9 ih8 y6 y7 o14 h hr15
 subst hr15
 refine LoopAt.round ?_
 refine .direct ?_
 refine .direct ?_
 refine splitB.mk (fun hb10 => ?_) (fun hb10 => ?_)
 replace h := T_dec hb10 h
 refine .direct ?_
 refine .direct ?_
 obtain ⟨x11, hx12, h⟩ := bind_some h
 refine ⟨idx_bd hx12, _, (idx_row hx12).trans rfl, ?_⟩
 refine .direct ?_
 refine splitB.mk (fun hb13 => ?_) (fun hb13 => ?_)
 replace h := T_dec hb13 h
 refine .direct ?_
 obtain rfl := Option.some.inj h
 replace h := hk5
 obtain rfl := Option.some.inj h
 exact ⟨[], .int .i64 (-1), [], by decide, (show 0 ≤ 0 by decide), .int_eq rfl, trivial, rfl, rfl⟩
 replace h := F_dec hb13 h
 exact ⟨[(0, sl 1 cS a0), (1, .int .i64 (W64 (y6 - (x11.length : Int)))), (5, .int .i64 (W64 (y7 + 1)))], [], ⟨[], by decide, (show 0 ≤ 0 by decide), ⟨.slc_eq rfl (fun _ _ => rfl), .int_eq rfl, .int_eq rfl, trivial⟩, trivial⟩, ih8 _ _ _ h rfl⟩
 replace h := F_dec hb10 h
 exact ⟨[(1, .int .i64 y6)], [], ⟨[], by decide, (show 0 ≤ 0 by decide), ⟨.int_eq rfl, trivial⟩, trivial⟩, y6, Option.some.inj h, rfl, rfl⟩
 rintro _ _ ⟨y2, rfl, rfl, rfl⟩
 replace h := hk5
 refine .direct ?_
 obtain rfl := Option.some.inj h
 exact ⟨[], .int .i64 y2, [], by decide, (show 0 ≤ 0 by decide), .int_eq rfl, trivial, rfl, rfl⟩
def m_l_szFunc (a0 : TFunc) (a1 : Int) : Option (Int) :=
 (if (W64 (a1 - (a0.fName.length : Int))) < 0 then
 some (-1)
 else
 m_l_szParamS a0.fParams (W64 (a1 - (a0.fName.length : Int))) >>= fun v2 =>
 (if v2 < 0 then
 some (-1)
 else
 m_l_szParamS a0.fUses v2 >>= fun v5 =>
 (if v5 < 0 then
 some (-1)
 else
 m_l_szStringS a0.fSlots v5 >>= fun v8 =>
 (if v8 < 0 then
 some (-1)
 else
 m_l_szInsS a0.fCode v8 >>= fun v11 =>
 (if v11 < 0 then
 some (-1)
 else
 some v11)))))
theorem ok_l_szFunc {a0 : TFunc} {a1 : Int} {r : Int} (h : m_l_szFunc a0 a1 = some r) : ACall Try.prog 7 [.agg [.str a0.fName, sl 2 TParam.cells a0.fParams, sl 2 TParam.cells a0.fUses, sl 1 cS a0.fSlots, .bool a0.fGen, sl 5 TIns.cells a0.fCode], .int .i64 a1] [] (fun res h => res = .int .i64 r ∧ h = []) := by
 refine ACall.of_vc tabT_ok mixed Try.func7 rfl (by kernel_rfl) _ _ _ rfl (by kernel_rfl) ?_
 unfold m_l_szFunc at h
 refine .direct ?_
 refine .direct ?_
 refine ⟨rfl, ?_⟩
 refine ⟨rfl, _, rfl, ?_⟩
 refine .direct ?_
 refine .direct ?_
 refine splitB.mk (fun hb1 => ?_) (fun hb1 => ?_)
 replace h := T_dec hb1 h
 refine .direct ?_
 obtain rfl := Option.some.inj h
 exact ⟨[], .int .i64 (-1), [], by decide, (show 0 ≤ 0 by decide), .int_eq rfl, trivial, rfl, rfl⟩
 replace h := F_dec hb1 h
 refine .direct ?_
 refine ⟨rfl, ?_⟩
 refine ⟨rfl, _, rfl, ?_⟩
 obtain ⟨v2, hv3, h⟩ := bind_some h
 refine ⟨_, ACall.pure0 (ok_l_szParamS hv3) _ rfl (fun _ => rfl), ?_⟩
 rintro _ _ ⟨rfl, rfl⟩
 refine .direct ?_
 refine .direct ?_
 refine splitB.mk (fun hb4 => ?_) (fun hb4 => ?_)
 replace h := T_dec hb4 h
 refine .direct ?_
 obtain rfl := Option.some.inj h
 exact ⟨[], .int .i64 (-1), [], by decide, (show 0 ≤ 0 by decide), .int_eq rfl, trivial, rfl, rfl⟩
 replace h := F_dec hb4 h
 refine .direct ?_
 refine ⟨rfl, ?_⟩
 refine ⟨rfl, _, rfl, ?_⟩
 obtain ⟨v5, hv6, h⟩ := bind_some h
 refine ⟨_, ACall.pure0 (ok_l_szParamS hv6) _ rfl (fun _ => rfl), ?_⟩
 rintro _ _ ⟨rfl, rfl⟩
 refine .direct ?_
 refine .direct ?_
 refine splitB.mk (fun hb7 => ?_) (fun hb7 => ?_)
 replace h := T_dec hb7 h
 refine .direct ?_
 obtain rfl := Option.some.inj h
 exact ⟨[], .int .i64 (-1), [], by decide, (show 0 ≤ 0 by decide), .int_eq rfl, trivial, rfl, rfl⟩
 replace h := F_dec hb7 h
 refine .direct ?_
 refine ⟨rfl, ?_⟩
 refine ⟨rfl, _, rfl, ?_⟩
 obtain ⟨v8, hv9, h⟩ := bind_some h
 refine ⟨_, ACall.pure0 (ok_l_szStringS hv9) _ rfl (fun _ => rfl), ?_⟩
 rintro _ _ ⟨rfl, rfl⟩
 refine .direct ?_
 refine .direct ?_
 refine splitB.mk (fun hb10 => ?_) (fun hb10 => ?_)
 replace h := T_dec hb10 h
 refine .direct ?_
 obtain rfl := Option.some.inj h
 exact ⟨[], .int .i64 (-1), [], by decide, (show 0 ≤ 0 by decide), .int_eq rfl, trivial, rfl, rfl⟩
 replace h := F_dec hb10 h
 refine .direct ?_
 refine ⟨rfl, ?_⟩
 refine ⟨rfl, _, rfl, ?_⟩
 obtain ⟨v11, hv12, h⟩ := bind_some h
 refine ⟨_, ACall.pure0 (ok_l_szInsS hv12) _ rfl (fun _ => rfl), ?_⟩
 rintro _ _ ⟨rfl, rfl⟩
 refine .direct ?_
 refine .direct ?_
 refine splitB.mk (fun hb13 => ?_) (fun hb13 => ?_)
 replace h := T_dec hb13 h
 refine .direct ?_
 obtain rfl := Option.some.inj h
 exact ⟨[], .int .i64 (-1), [], by decide, (show 0 ≤ 0 by decide), .int_eq rfl, trivial, rfl, rfl⟩
 replace h := F_dec hb13 h
 refine .direct ?_
 obtain rfl := Option.some.inj h
 exact ⟨[], .int .i64 v11, [], by decide, (show 0 ≤ 0 by decide), .int_eq rfl, trivial, rfl, rfl⟩
def m_l_toIns (a0 : TIns) : Option (TIns) :=
 some a0
theorem ok_l_toIns {a0 : TIns} {r : TIns} (h : m_l_toIns a0 = some r) : ACall Try.prog 66 [.agg [.int .i64 a0.fOp, .int .i64 a0.fA, .int .i64 a0.fB, .str a0.fS, .str a0.fT]] [] (fun res h => res = .agg [.int .i64 r.fOp, .int .i64 r.fA, .int .i64 r.fB, .str r.fS, .str r.fT] ∧ h = []) := by
 refine ACall.of_vc tabT_ok mixed Try.func66 rfl (by kernel_rfl) _ _ _ rfl (by kernel_rfl) ?_
 unfold m_l_toIns at h
 refine .direct ?_
 refine .direct ?_
 refine .direct ?_
 refine ⟨rfl, ?_⟩
 refine ⟨rfl, _, rfl, ?_⟩
 refine ⟨rfl, ?_⟩
 refine ⟨rfl, _, fun _ => [.int .i64 a0.fOp, .int .i64 0, .int .i64 0, .str [], .str []], rfl, one_set rfl, ?_⟩
 refine .direct ?_
 refine ⟨rfl, ?_⟩
 refine ⟨rfl, _, rfl, ?_⟩
 refine ⟨rfl, ?_⟩
 refine ⟨rfl, _, fun _ => [.int .i64 a0.fOp, .int .i64 a0.fA, .int .i64 0, .str [], .str []], rfl, one_set rfl, ?_⟩
 refine .direct ?_
 refine ⟨rfl, ?_⟩
 refine ⟨rfl, _, rfl, ?_⟩
 refine ⟨rfl, ?_⟩
 refine ⟨rfl, _, fun _ => [.int .i64 a0.fOp, .int .i64 a0.fA, .int .i64 a0.fB, .str [], .str []], rfl, one_set rfl, ?_⟩
 refine .direct ?_
 refine ⟨rfl, ?_⟩
 refine ⟨rfl, _, rfl, ?_⟩
 refine ⟨rfl, ?_⟩
 refine ⟨rfl, _, fun _ => [.int .i64 a0.fOp, .int .i64 a0.fA, .int .i64 a0.fB, .str a0.fS, .str []], rfl, one_set rfl, ?_⟩
 refine .direct ?_
 refine ⟨rfl, ?_⟩
 refine ⟨rfl, _, rfl, ?_⟩
 refine ⟨rfl, ?_⟩
 refine ⟨rfl, _, fun _ => [.int .i64 a0.fOp, .int .i64 a0.fA, .int .i64 a0.fB, .str a0.fS, .str a0.fT], rfl, one_set rfl, ?_⟩
 refine .direct ?_
 refine ⟨rfl, _, rfl, ?_⟩
 refine ⟨rfl, _, fun _ => [.int .i64 a0.fOp, .int .i64 a0.fA, .int .i64 a0.fB, .str a0.fS, .str a0.fT], rfl, one_set rfl, ?_⟩
 obtain rfl := Option.some.inj h
 refine ⟨rfl, _, rfl, ?_⟩
 exact ⟨[], .agg [.int .i64 a0.fOp, .int .i64 a0.fA, .int .i64 a0.fB, .str a0.fS, .str a0.fT], [], by decide, (show 0 ≤ 0 by decide), .agg_l ⟨.int_eq rfl, .int_eq rfl, .int_eq rfl, .str_eq rfl, .str_eq rfl, trivial⟩, trivial, rfl, rfl⟩
theorem ok_l_toInsx (a0 : TIns) : ACall Try.prog 66 [.agg [.int .i64 a0.fOp, .int .i64 a0.fA, .int .i64 a0.fB, .str a0.fS, .str a0.fT]] [] (fun res h => res = .agg [.int .i64 a0.fOp, .int .i64 a0.fA, .int .i64 a0.fB, .str a0.fS, .str a0.fT] ∧ h = []) := by
 refine ACall.of_vc tabT_ok mixed Try.func66 rfl (by kernel_rfl) _ _ _ rfl (by kernel_rfl) ?_
 refine .direct ?_
 refine .direct ?_
 refine .direct ?_
 refine ⟨rfl, ?_⟩
 refine ⟨rfl, _, rfl, ?_⟩
 refine ⟨rfl, ?_⟩
 refine ⟨rfl, _, fun _ => [.int .i64 a0.fOp, .int .i64 0, .int .i64 0, .str [], .str []], rfl, one_set rfl, ?_⟩
 refine .direct ?_
 refine ⟨rfl, ?_⟩
 refine ⟨rfl, _, rfl, ?_⟩
 refine ⟨rfl, ?_⟩
 refine ⟨rfl, _, fun _ => [.int .i64 a0.fOp, .int .i64 a0.fA, .int .i64 0, .str [], .str []], rfl, one_set rfl, ?_⟩
 refine .direct ?_
 refine ⟨rfl, ?_⟩
 refine ⟨rfl, _, rfl, ?_⟩
 refine ⟨rfl, ?_⟩
 refine ⟨rfl, _, fun _ => [.int .i64 a0.fOp, .int .i64 a0.fA, .int .i64 a0.fB, .str [], .str []], rfl, one_set rfl, ?_⟩
 refine .direct ?_
 refine ⟨rfl, ?_⟩
 refine ⟨rfl, _, rfl, ?_⟩
 refine ⟨rfl, ?_⟩
 refine ⟨rfl, _, fun _ => [.int .i64 a0.fOp, .int .i64 a0.fA, .int .i64 a0.fB, .str a0.fS, .str []], rfl, one_set rfl, ?_⟩
 refine .direct ?_
 refine ⟨rfl, ?_⟩
 refine ⟨rfl, _, rfl, ?_⟩
 refine ⟨rfl, ?_⟩
 refine ⟨rfl, _, fun _ => [.int .i64 a0.fOp, .int .i64 a0.fA, .int .i64 a0.fB, .str a0.fS, .str a0.fT], rfl, one_set rfl, ?_⟩
 refine .direct ?_
 refine ⟨rfl, _, rfl, ?_⟩
 refine ⟨rfl, _, fun _ => [.int .i64 a0.fOp, .int .i64 a0.fA, .int .i64 a0.fB, .str a0.fS, .str a0.fT], rfl, one_set rfl, ?_⟩
 refine ⟨rfl, _, rfl, ?_⟩
 exact ⟨[], .agg [.int .i64 a0.fOp, .int .i64 a0.fA, .int .i64 a0.fB, .str a0.fS, .str a0.fT], [], by decide, (show 0 ≤ 0 by decide), .agg_l ⟨.int_eq rfl, .int_eq rfl, .int_eq rfl, .str_eq rfl, .str_eq rfl, trivial⟩, trivial, rfl, rfl⟩
def m_l_toParam (a0 : TParam) : Option (TParam) :=
 some a0
theorem ok_l_toParam {a0 : TParam} {r : TParam} (h : m_l_toParam a0 = some r) : ACall Try.prog 65 [.agg [.str a0.fName, .bool a0.fRef]] [] (fun res h => res = .agg [.str r.fName, .bool r.fRef] ∧ h = []) := by
 refine ACall.of_vc tabT_ok mixed Try.func65 rfl (by kernel_rfl) _ _ _ rfl (by kernel_rfl) ?_
 unfold m_l_toParam at h
 refine .direct ?_
 refine .direct ?_
 refine .direct ?_
 refine ⟨rfl, ?_⟩
 refine ⟨rfl, _, rfl, ?_⟩
 refine ⟨rfl, ?_⟩
 refine ⟨rfl, _, fun _ => [.str a0.fName, .bool false], rfl, one_set rfl, ?_⟩
 refine .direct ?_
 refine ⟨rfl, ?_⟩
 refine ⟨rfl, _, rfl, ?_⟩
 refine ⟨rfl, ?_⟩
 refine ⟨rfl, _, fun _ => [.str a0.fName, .bool a0.fRef], rfl, one_set rfl, ?_⟩
 refine .direct ?_
 refine ⟨rfl, _, rfl, ?_⟩
 refine ⟨rfl, _, fun _ => [.str a0.fName, .bool a0.fRef], rfl, one_set rfl, ?_⟩
 obtain rfl := Option.some.inj h
 refine ⟨rfl, _, rfl, ?_⟩
 exact ⟨[], .agg [.str a0.fName, .bool a0.fRef], [], by decide, (show 0 ≤ 0 by decide), .agg_l ⟨.str_eq rfl, .bool_eq rfl, trivial⟩, trivial, rfl, rfl⟩
theorem ok_l_toParamx (a0 : TParam) : ACall Try.prog 65 [.agg [.str a0.fName, .bool a0.fRef]] [] (fun res h => res = .agg [.str a0.fName, .bool a0.fRef] ∧ h = []) := by
 refine ACall.of_vc tabT_ok mixed Try.func65 rfl (by kernel_rfl) _ _ _ rfl (by kernel_rfl) ?_
 refine .direct ?_
 refine .direct ?_
 refine .direct ?_
 refine ⟨rfl, ?_⟩
 refine ⟨rfl, _, rfl, ?_⟩
 refine ⟨rfl, ?_⟩
 refine ⟨rfl, _, fun _ => [.str a0.fName, .bool false], rfl, one_set rfl, ?_⟩
 refine .direct ?_
 refine ⟨rfl, ?_⟩
 refine ⟨rfl, _, rfl, ?_⟩
 refine ⟨rfl, ?_⟩
 refine ⟨rfl, _, fun _ => [.str a0.fName, .bool a0.fRef], rfl, one_set rfl, ?_⟩
 refine .direct ?_
 refine ⟨rfl, _, rfl, ?_⟩
 refine ⟨rfl, _, fun _ => [.str a0.fName, .bool a0.fRef], rfl, one_set rfl, ?_⟩
 refine ⟨rfl, _, rfl, ?_⟩
 exact ⟨[], .agg [.str a0.fName, .bool a0.fRef], [], by decide, (show 0 ≤ 0 by decide), .agg_l ⟨.str_eq rfl, .bool_eq rfl, trivial⟩, trivial, rfl, rfl⟩
def m_l_toInsS_L2 (a0 : List TIns) (l7 : List TIns) (y8 : Int) : Option ((List TIns)) :=
 (if y8 < (a0.length : Int) then
 idx a0 y8 >>= fun x12 =>
 idx l7 y8 >>= fun x14 =>
 m_l_toInsS_L2 a0 (l7.set y8.toNat x12) (W64 (y8 + 1))
 else
 some l7)
partial_fixpoint
def m_l_toInsS (a0 : List TIns) : Option ((List TIns)) :=
 (lmake 56 (a0.length : Int) (a0.length : Int) : Option (List TIns)) >>= fun l1 =>
 (
 m_l_toInsS_L2 a0 l1 0
 : Option ((List TIns))) >>= fun l3 =>
 some l3
theorem ok_l_toInsS {a0 : List TIns} {r : (List TIns)} (h : m_l_toInsS a0 = some r) : ACall Try.prog 33 [sl 5 TIns.cells a0] [] (fun res h => res = sl 5 TIns.cells r ∧ h = []) := by
 refine ACall.of_vc tabT_ok mixed Try.func33 rfl (by kernel_rfl) _ _ _ rfl (by kernel_rfl) ?_
 unfold m_l_toInsS at h
 refine .direct ?_
 refine .direct ?_
 obtain ⟨l1, hx2, h⟩ := bind_some h
 refine ⟨lmake_bd hx2, l1.length, row TIns.cells l1, lmake_len hx2, lmake_row hx2 (TIns.cells_eq default) ⟨.same _, .same _, .same _, .same _, .same _, trivial⟩, ?_⟩
 obtain ⟨o4, ho5, hk6⟩ := bind_some h
 replace h := ho5
 refine .cut (fun σ η => ∃ l3, l3 = o4 ∧ σ = [(3, .own 0 0 0 l3.length)] ∧ η = [.row 0 5 l3.length 53 (row TIns.cells l3)]) ?_ ?_
 refine .direct ?_
 refine LoopAt.enter [(0, sl 5 TIns.cells a0), (3, .own 0 0 0 l1.length), (4, .int .i64 0)] [.row 0 5 l1.length 53 (row TIns.cells l1)] ⟨[0], by decide, (show 0 ≤ 1 by decide), ⟨.slc_eq rfl (fun _ _ => rfl), .own_eq rfl ⟨_, _, _, _, rfl⟩ ⟨_, _, _, _, rfl, Nat.le_of_eq (Nat.zero_add _)⟩ rfl rfl, .int_eq rfl, trivial⟩, ⟨⟨fun h0 => absurd (show 0 < 0 from h0) (by decide), rfl, .inl rfl, rfl, fz_row TIns.cells_pure⟩, trivial⟩⟩ ?_
 refine m_l_toInsS_L2.partial_correctness a0 (motive := fun l7 y8 o16 => o4 = o16 → LoopAt _ _ [(0, sl 5 TIns.cells a0), (3, .own 0 0 0 l7.length), (4, .int .i64 y8)] [.row 0 5 l7.length 53 (row TIns.cells l7)]) ?_ l1 0 o4 h rfl
 intro F10 ih9 l7 y8 o16 h hr17
 subst hr17
 refine LoopAt.round ?_
 refine .direct ?_
 refine .direct ?_
 refine splitB.mk (fun hb11 => ?_) (fun hb11 => ?_)
 replace h := T_dec hb11 h
 refine .direct ?_
 obtain ⟨x12, hx13, h⟩ := bind_some h
 refine ⟨idx_bd hx13, _, (idx_row hx13).trans (TIns.cells_eq x12), ?_⟩
 refine ⟨_, ACall.pure0 (ok_l_toInsx x12) _ rfl (fun _ => rfl), ?_⟩
 rintro _ _ ⟨rfl, rfl⟩
 obtain ⟨x14, hx15, h⟩ := bind_some h
 refine ⟨rfl, idx_bd hx15, _, Nat.zero_add _, ?_⟩
 refine ⟨rfl, _, row TIns.cells (l7.set y8.toNat x12), ((idx_row hx15).trans (TIns.cells_eq x14)), row_set (idx_lt hx15) (TIns.cells_eq x12) ⟨.same _, .same _, .same _, .same _, .same _, trivial⟩, ?_⟩
 exact ⟨[(0, sl 5 TIns.cells a0), (3, .own 0 0 0 (l7.set y8.toNat x12).length), (4, .int .i64 (W64 (y8 + 1)))], [.row 0 5 (l7.set y8.toNat x12).length 53 (row TIns.cells (l7.set y8.toNat x12))], ⟨[0], by decide, (show 0 ≤ 1 by decide), ⟨.slc_eq rfl (fun _ _ => rfl), .own_eq rfl ⟨_, _, _, _, rfl⟩ ⟨_, _, _, _, rfl, Nat.le_of_eq (Nat.zero_add _)⟩ rfl (by simp), .int_eq rfl, trivial⟩, ⟨⟨fun h0 => absurd (show 0 < 0 from h0) (by decide), rfl, .inl (by simp), rfl, fz_row TIns.cells_pure⟩, trivial⟩⟩, ih9 _ _ _ h rfl⟩
 replace h := F_dec hb11 h
 exact ⟨[(3, .own 0 0 0 l7.length)], [.row 0 5 l7.length 53 (row TIns.cells l7)], ⟨[0], by decide, (show 0 ≤ 1 by decide), ⟨.own_eq rfl ⟨_, _, _, _, rfl⟩ ⟨_, _, _, _, rfl, Nat.le_of_eq (Nat.zero_add _)⟩ rfl rfl, trivial⟩, ⟨⟨fun h0 => absurd (show 0 < 0 from h0) (by decide), rfl, .inl rfl, rfl, fz_row TIns.cells_pure⟩, trivial⟩⟩, l7, Option.some.inj h, rfl, rfl⟩
 rintro _ _ ⟨l3, rfl, rfl, rfl⟩
 replace h := hk6
 refine .direct ?_
 obtain rfl := Option.some.inj h
 exact ⟨[], sl 5 TIns.cells l3, [], by decide, (show 0 ≤ 0 by decide), (fz_frz TIns.cells_pure (by first | decide | simp) rfl shows_all), trivial, rfl, rfl⟩
def m_l_toParamS_L2 (a0 : List TParam) (l7 : List TParam) (y8 : Int) : Option ((List TParam)) :=
 (if y8 < (a0.length : Int) then
 idx a0 y8 >>= fun x12 =>
 idx l7 y8 >>= fun x14 =>
 m_l_toParamS_L2 a0 (l7.set y8.toNat x12) (W64 (y8 + 1))
 else
 some l7)
partial_fixpoint
def m_l_toParamS (a0 : List TParam) : Option ((List TParam)) :=
 (lmake 24 (a0.length : Int) (a0.length : Int) : Option (List TParam)) >>= fun l1 =>
 (
 m_l_toParamS_L2 a0 l1 0
 : Option ((List TParam))) >>= fun l3 =>
 some l3
theorem ok_l_toParamS {a0 : List TParam} {r : (List TParam)} (h : m_l_toParamS a0 = some r) : ACall Try.prog 31 [sl 2 TParam.cells a0] [] (fun res h => res = sl 2 TParam.cells r ∧ h = []) := by
 refine ACall.of_vc tabT_ok mixed Try.func31 rfl (by kernel_rfl) _ _ _ rfl (by kernel_rfl) ?_
 unfold m_l_toParamS at h
 refine .direct ?_
 refine .direct ?_
 obtain ⟨l1, hx2, h⟩ := bind_some h
 refine ⟨lmake_bd hx2, l1.length, row TParam.cells l1, lmake_len hx2, lmake_row hx2 (TParam.cells_eq default) ⟨.same _, .same _, trivial⟩, ?_⟩
 obtain ⟨o4, ho5, hk6⟩ := bind_some h
 replace h := ho5
 refine .cut (fun σ η => ∃ l3, l3 = o4 ∧ σ = [(3, .own 0 0 0 l3.length)] ∧ η = [.row 0 2 l3.length 75 (row TParam.cells l3)]) ?_ ?_
 refine .direct ?_
 refine LoopAt.enter [(0, sl 2 TParam.cells a0), (3, .own 0 0 0 l1.length), (4, .int .i64 0)] [.row 0 2 l1.length 75 (row TParam.cells l1)] ⟨[0], by decide, (show 0 ≤ 1 by decide), ⟨.slc_eq rfl (fun _ _ => rfl), .own_eq rfl ⟨_, _, _, _, rfl⟩ ⟨_, _, _, _, rfl, Nat.le_of_eq (Nat.zero_add _)⟩ rfl rfl, .int_eq rfl, trivial⟩, ⟨⟨fun h0 => absurd (show 0 < 0 from h0) (by decide), rfl, .inl rfl, rfl, fz_row TParam.cells_pure⟩, trivial⟩⟩ ?_
 refine m_l_toParamS_L2.partial_correctness a0 (motive := fun l7 y8 o16 => o4 = o16 → LoopAt _ _ [(0, sl 2 TParam.cells a0), (3, .own 0 0 0 l7.length), (4, .int .i64 y8)] [.row 0 2 l7.length 75 (row TParam.cells l7)]) ?_ l1 0 o4 h rfl
 intro F10 ih9 l7 y8 o16 h hr17
 subst hr17
 refine LoopAt.round ?_
 refine .direct ?_
 refine .direct ?_
 refine splitB.mk (fun hb11 => ?_) (fun hb11 => ?_)
 replace h := T_dec hb11 h
 refine .direct ?_
 obtain ⟨x12, hx13, h⟩ := bind_some h
 refine ⟨idx_bd hx13, _, (idx_row hx13).trans (TParam.cells_eq x12), ?_⟩
 refine ⟨_, ACall.pure0 (ok_l_toParamx x12) _ rfl (fun _ => rfl), ?_⟩
 rintro _ _ ⟨rfl, rfl⟩
 obtain ⟨x14, hx15, h⟩ := bind_some h
 refine ⟨rfl, idx_bd hx15, _, Nat.zero_add _, ?_⟩
 refine ⟨rfl, _, row TParam.cells (l7.set y8.toNat x12), ((idx_row hx15).trans (TParam.cells_eq x14)), row_set (idx_lt hx15) (TParam.cells_eq x12) ⟨.same _, .same _, trivial⟩, ?_⟩
 exact ⟨[(0, sl 2 TParam.cells a0), (3, .own 0 0 0 (l7.set y8.toNat x12).length), (4, .int .i64 (W64 (y8 + 1)))], [.row 0 2 (l7.set y8.toNat x12).length 75 (row TParam.cells (l7.set y8.toNat x12))], ⟨[0], by decide, (show 0 ≤ 1 by decide), ⟨.slc_eq rfl (fun _ _ => rfl), .own_eq rfl ⟨_, _, _, _, rfl⟩ ⟨_, _, _, _, rfl, Nat.le_of_eq (Nat.zero_add _)⟩ rfl (by simp), .int_eq rfl, trivial⟩, ⟨⟨fun h0 => absurd (show 0 < 0 from h0) (by decide), rfl, .inl (by simp), rfl, fz_row TParam.cells_pure⟩, trivial⟩⟩, ih9 _ _ _ h rfl⟩
 replace h := F_dec hb11 h
 exact ⟨[(3, .own 0 0 0 l7.length)], [.row 0 2 l7.length 75 (row TParam.cells l7)], ⟨[0], by decide, (show 0 ≤ 1 by decide), ⟨.own_eq rfl ⟨_, _, _, _, rfl⟩ ⟨_, _, _, _, rfl, Nat.le_of_eq (Nat.zero_add _)⟩ rfl rfl, trivial⟩, ⟨⟨fun h0 => absurd (show 0 < 0 from h0) (by decide), rfl, .inl rfl, rfl, fz_row TParam.cells_pure⟩, trivial⟩⟩, l7, Option.some.inj h, rfl, rfl⟩
 rintro _ _ ⟨l3, rfl, rfl, rfl⟩
 replace h := hk6
 refine .direct ?_
 obtain rfl := Option.some.inj h
 exact ⟨[], sl 2 TParam.cells l3, [], by decide, (show 0 ≤ 0 by decide), (fz_frz TParam.cells_pure (by first | decide | simp) rfl shows_all), trivial, rfl, rfl⟩
def m_l_toStringS_L2 (a0 : List Str) (l7 : List Str) (y8 : Int) : Option ((List Str)) :=
 (if y8 < (a0.length : Int) then
 idx a0 y8 >>= fun x12 =>
 idx l7 y8 >>= fun x14 =>
 m_l_toStringS_L2 a0 (l7.set y8.toNat x12) (W64 (y8 + 1))
 else
 some l7)
partial_fixpoint
def m_l_toStringS (a0 : List Str) : Option ((List Str)) :=
 (lmake 16 (a0.length : Int) (a0.length : Int) : Option (List Str)) >>= fun l1 =>
 (
 m_l_toStringS_L2 a0 l1 0
 : Option ((List Str))) >>= fun l3 =>
 some l3
theorem ok_l_toStringS {a0 : List Str} {r : (List Str)} (h : m_l_toStringS a0 = some r) : ACall Try.prog 32 [sl 1 cS a0] [] (fun res h => res = sl 1 cS r ∧ h = []) := by
 refine ACall.of_vc tabT_ok mixed Try.func32 rfl (by kernel_rfl) _ _ _ rfl (by kernel_rfl) ?_
 unfold m_l_toStringS at h
 refine .direct ?_
 refine .direct ?_
 obtain ⟨l1, hx2, h⟩ := bind_some h
 refine ⟨lmake_bd hx2, l1.length, row cS l1, lmake_len hx2, lmake_row hx2 rfl ⟨.same _, trivial⟩, ?_⟩
 obtain ⟨o4, ho5, hk6⟩ := bind_some h
 replace h := ho5
 refine .cut (fun σ η => ∃ l3, l3 = o4 ∧ σ = [(3, .own 0 0 0 l3.length)] ∧ η = [.row 0 1 l3.length 9 (row cS l3)]) ?_ ?_
 refine .direct ?_
 refine LoopAt.enter [(0, sl 1 cS a0), (3, .own 0 0 0 l1.length), (4, .int .i64 0)] [.row 0 1 l1.length 9 (row cS l1)] ⟨[0], by decide, (show 0 ≤ 1 by decide), ⟨.slc_eq rfl (fun _ _ => rfl), .own_eq rfl ⟨_, _, _, _, rfl⟩ ⟨_, _, _, _, rfl, Nat.le_of_eq (Nat.zero_add _)⟩ rfl rfl, .int_eq rfl, trivial⟩, ⟨⟨fun h0 => absurd (show 0 < 0 from h0) (by decide), rfl, .inl rfl, rfl, fz_row cS_pure⟩, trivial⟩⟩ ?_
 refine m_l_toStringS_L2.partial_correctness a0 (motive := fun l7 y8 o16 => o4 = o16 → LoopAt _ _ [(0, sl 1 cS a0), (3, .own 0 0 0 l7.length), (4, .int .i64 y8)] [.row 0 1 l7.length 9 (row cS l7)]) ?_ l1 0 o4 h rfl
 intro F10 ih9 l7 y8 o16 h hr17
 subst hr17
 refine LoopAt.round ?_
 refine .direct ?_
 refine .direct ?_
 refine splitB.mk (fun hb11 => ?_) (fun hb11 => ?_)
 replace h := T_dec hb11 h
 refine .direct ?_
 obtain ⟨x12, hx13, h⟩ := bind_some h
 refine ⟨idx_bd hx13, _, (idx_row hx13).trans rfl, ?_⟩
 obtain ⟨x14, hx15, h⟩ := bind_some h
 refine ⟨rfl, idx_bd hx15, _, Nat.zero_add _, ?_⟩
 refine ⟨rfl, _, row cS (l7.set y8.toNat x12), ((idx_row hx15).trans rfl), row_set (idx_lt hx15) rfl ⟨.same _, trivial⟩, ?_⟩
 exact ⟨[(0, sl 1 cS a0), (3, .own 0 0 0 (l7.set y8.toNat x12).length), (4, .int .i64 (W64 (y8 + 1)))], [.row 0 1 (l7.set y8.toNat x12).length 9 (row cS (l7.set y8.toNat x12))], ⟨[0], by decide, (show 0 ≤ 1 by decide), ⟨.slc_eq rfl (fun _ _ => rfl), .own_eq rfl ⟨_, _, _, _, rfl⟩ ⟨_, _, _, _, rfl, Nat.le_of_eq (Nat.zero_add _)⟩ rfl (by simp), .int_eq rfl, trivial⟩, ⟨⟨fun h0 => absurd (show 0 < 0 from h0) (by decide), rfl, .inl (by simp), rfl, fz_row cS_pure⟩, trivial⟩⟩, ih9 _ _ _ h rfl⟩
 replace h := F_dec hb11 h
 exact ⟨[(3, .own 0 0 0 l7.length)], [.row 0 1 l7.length 9 (row cS l7)], ⟨[0], by decide, (show 0 ≤ 1 by decide), ⟨.own_eq rfl ⟨_, _, _, _, rfl⟩ ⟨_, _, _, _, rfl, Nat.le_of_eq (Nat.zero_add _)⟩ rfl rfl, trivial⟩, ⟨⟨fun h0 => absurd (show 0 < 0 from h0) (by decide), rfl, .inl rfl, rfl, fz_row cS_pure⟩, trivial⟩⟩, l7, Option.some.inj h, rfl, rfl⟩
 rintro _ _ ⟨l3, rfl, rfl, rfl⟩
 replace h := hk6
 refine .direct ?_
 obtain rfl := Option.some.inj h
 exact ⟨[], sl 1 cS l3, [], by decide, (show 0 ≤ 0 by decide), (fz_frz cS_pure (by first | decide | simp) rfl shows_all), trivial, rfl, rfl⟩
def m_l_toFunc (a0 : TFunc) : Option (TFunc) :=
 m_l_toParamS a0.fParams >>= fun v1 =>
 m_l_toParamS a0.fUses >>= fun v3 =>
 m_l_toStringS a0.fSlots >>= fun v5 =>
 m_l_toInsS a0.fCode >>= fun v7 =>
 some (TFunc.mk a0.fName v1 v3 v5 a0.fGen v7)
theorem ok_l_toFunc {a0 : TFunc} {r : TFunc} (h : m_l_toFunc a0 = some r) : ACall Try.prog 9 [.agg [.str a0.fName, sl 2 TParam.cells a0.fParams, sl 2 TParam.cells a0.fUses, sl 1 cS a0.fSlots, .bool a0.fGen, sl 5 TIns.cells a0.fCode]] [] (fun res h => res = .agg [.str r.fName, sl 2 TParam.cells r.fParams, sl 2 TParam.cells r.fUses, sl 1 cS r.fSlots, .bool r.fGen, sl 5 TIns.cells r.fCode] ∧ h = []) := by
 refine ACall.of_vc tabT_ok mixed Try.func9 rfl (by kernel_rfl) _ _ _ rfl (by kernel_rfl) ?_
 unfold m_l_toFunc at h
 refine .direct ?_
 refine .direct ?_
 refine .direct ?_
 refine ⟨rfl, ?_⟩
 refine ⟨rfl, _, rfl, ?_⟩
 refine ⟨rfl, ?_⟩
 refine ⟨rfl, _, fun _ => [.str a0.fName, .nils, .nils, .nils, .bool false, .nils], rfl, one_set rfl, ?_⟩
 refine .direct ?_
 refine ⟨rfl, ?_⟩
 refine ⟨rfl, _, rfl, ?_⟩
 obtain ⟨v1, hv2, h⟩ := bind_some h
 refine ⟨_, ACall.pure0 (ok_l_toParamS hv2) _ rfl (fun _ => rfl), ?_⟩
 rintro _ _ ⟨rfl, rfl⟩
 refine ⟨rfl, ?_⟩
 refine ⟨rfl, _, fun _ => [.str a0.fName, sl 2 TParam.cells v1, .nils, .nils, .bool false, .nils], rfl, one_set rfl, ?_⟩
 refine .direct ?_
 refine ⟨rfl, ?_⟩
 refine ⟨rfl, _, rfl, ?_⟩
 obtain ⟨v3, hv4, h⟩ := bind_some h
 refine ⟨_, ACall.pure0 (ok_l_toParamS hv4) _ rfl (fun _ => rfl), ?_⟩
 rintro _ _ ⟨rfl, rfl⟩
 refine ⟨rfl, ?_⟩
 refine ⟨rfl, _, fun _ => [.str a0.fName, sl 2 TParam.cells v1, sl 2 TParam.cells v3, .nils, .bool false, .nils], rfl, one_set rfl, ?_⟩
 refine .direct ?_
 refine ⟨rfl, ?_⟩
 refine ⟨rfl, _, rfl, ?_⟩
 obtain ⟨v5, hv6, h⟩ := bind_some h
 refine ⟨_, ACall.pure0 (ok_l_toStringS hv6) _ rfl (fun _ => rfl), ?_⟩
 rintro _ _ ⟨rfl, rfl⟩
 refine ⟨rfl, ?_⟩
 refine ⟨rfl, _, fun _ => [.str a0.fName, sl 2 TParam.cells v1, sl 2 TParam.cells v3, sl 1 cS v5, .bool false, .nils], rfl, one_set rfl, ?_⟩
 refine .direct ?_
 refine ⟨rfl, ?_⟩
 refine ⟨rfl, _, rfl, ?_⟩
 refine ⟨rfl, ?_⟩
 refine ⟨rfl, _, fun _ => [.str a0.fName, sl 2 TParam.cells v1, sl 2 TParam.cells v3, sl 1 cS v5, .bool a0.fGen, .nils], rfl, one_set rfl, ?_⟩
 refine .direct ?_
 refine ⟨rfl, ?_⟩
 refine ⟨rfl, _, rfl, ?_⟩
 obtain ⟨v7, hv8, h⟩ := bind_some h
 refine ⟨_, ACall.pure0 (ok_l_toInsS hv8) _ rfl (fun _ => rfl), ?_⟩
 rintro _ _ ⟨rfl, rfl⟩
 refine ⟨rfl, ?_⟩
 refine ⟨rfl, _, fun _ => [.str a0.fName, sl 2 TParam.cells v1, sl 2 TParam.cells v3, sl 1 cS v5, .bool a0.fGen, sl 5 TIns.cells v7], rfl, one_set rfl, ?_⟩
 refine .direct ?_
 refine ⟨rfl, _, rfl, ?_⟩
 refine ⟨rfl, _, fun _ => [.str a0.fName, sl 2 TParam.cells v1, sl 2 TParam.cells v3, sl 1 cS v5, .bool a0.fGen, sl 5 TIns.cells v7], rfl, one_set rfl, ?_⟩
 obtain rfl := Option.some.inj h
 refine ⟨rfl, _, rfl, ?_⟩
 exact ⟨[], .agg [.str ((TFunc.mk a0.fName v1 v3 v5 a0.fGen v7).fName), sl 2 TParam.cells ((TFunc.mk a0.fName v1 v3 v5 a0.fGen v7).fParams), sl 2 TParam.cells ((TFunc.mk a0.fName v1 v3 v5 a0.fGen v7).fUses), sl 1 cS ((TFunc.mk a0.fName v1 v3 v5 a0.fGen v7).fSlots), .bool ((TFunc.mk a0.fName v1 v3 v5 a0.fGen v7).fGen), sl 5 TIns.cells ((TFunc.mk a0.fName v1 v3 v5 a0.fGen v7).fCode)], [], by decide, (show 0 ≤ 0 by decide), .agg_l ⟨.str_eq rfl, .slc_eq rfl (fun _ _ => rfl), .slc_eq rfl (fun _ _ => rfl), .slc_eq rfl (fun _ _ => rfl), .bool_eq rfl, .slc_eq rfl (fun _ _ => rfl), trivial⟩, trivial, rfl, rfl⟩
def m_l_toIntS_L2 (a0 : List Int) (l7 : List Int) (y8 : Int) : Option ((List Int)) :=
 (if y8 < (a0.length : Int) then
 idx a0 y8 >>= fun x12 =>
 idx l7 y8 >>= fun x14 =>
 m_l_toIntS_L2 a0 (l7.set y8.toNat x12) (W64 (y8 + 1))
 else
 some l7)
partial_fixpoint
def m_l_toIntS (a0 : List Int) : Option ((List Int)) :=
 (lmake 8 (a0.length : Int) (a0.length : Int) : Option (List Int)) >>= fun l1 =>
 (
 m_l_toIntS_L2 a0 l1 0
 : Option ((List Int))) >>= fun l3 =>
 some l3
theorem ok_l_toIntS {a0 : List Int} {r : (List Int)} (h : m_l_toIntS a0 = some r) : ACall Try.prog 10 [sl 1 cI a0] [] (fun res h => res = sl 1 cI r ∧ h = []) := by
 refine ACall.of_vc tabT_ok mixed Try.func10 rfl (by kernel_rfl) _ _ _ rfl (by kernel_rfl) ?_
 unfold m_l_toIntS at h
 refine .direct ?_
 refine .direct ?_
 obtain ⟨l1, hx2, h⟩ := bind_some h
 refine ⟨lmake_bd hx2, l1.length, row cI l1, lmake_len hx2, lmake_row hx2 rfl ⟨.same _, trivial⟩, ?_⟩
 obtain ⟨o4, ho5, hk6⟩ := bind_some h
 replace h := ho5
 refine .cut (fun σ η => ∃ l3, l3 = o4 ∧ σ = [(3, .own 0 0 0 l3.length)] ∧ η = [.row 0 1 l3.length 3 (row cI l3)]) ?_ ?_
 refine .direct ?_
 refine LoopAt.enter [(0, sl 1 cI a0), (3, .own 0 0 0 l1.length), (4, .int .i64 0)] [.row 0 1 l1.length 3 (row cI l1)] ⟨[0], by decide, (show 0 ≤ 1 by decide), ⟨.slc_eq rfl (fun _ _ => rfl), .own_eq rfl ⟨_, _, _, _, rfl⟩ ⟨_, _, _, _, rfl, Nat.le_of_eq (Nat.zero_add _)⟩ rfl rfl, .int_eq rfl, trivial⟩, ⟨⟨fun h0 => absurd (show 0 < 0 from h0) (by decide), rfl, .inl rfl, rfl, fz_row cI_pure⟩, trivial⟩⟩ ?_
 refine m_l_toIntS_L2.partial_correctness a0 (motive := fun l7 y8 o16 => o4 = o16 → LoopAt _ _ [(0, sl 1 cI a0), (3, .own 0 0 0 l7.length), (4, .int .i64 y8)] [.row 0 1 l7.length 3 (row cI l7)]) ?_ l1 0 o4 h rfl
 intro F10 ih9 l7 y8 o16 h hr17
 subst hr17
 refine LoopAt.round ?_
 refine .direct ?_
 refine .direct ?_
 refine splitB.mk (fun hb11 => ?_) (fun hb11 => ?_)
 replace h := T_dec hb11 h
 refine .direct ?_
 obtain ⟨x12, hx13, h⟩ := bind_some h
 refine ⟨idx_bd hx13, _, (idx_row hx13).trans rfl, ?_⟩
 obtain ⟨x14, hx15, h⟩ := bind_some h
 refine ⟨rfl, idx_bd hx15, _, Nat.zero_add _, ?_⟩
 refine ⟨rfl, _, row cI (l7.set y8.toNat x12), ((idx_row hx15).trans rfl), row_set (idx_lt hx15) rfl ⟨.same _, trivial⟩, ?_⟩
 exact ⟨[(0, sl 1 cI a0), (3, .own 0 0 0 (l7.set y8.toNat x12).length), (4, .int .i64 (W64 (y8 + 1)))], [.row 0 1 (l7.set y8.toNat x12).length 3 (row cI (l7.set y8.toNat x12))], ⟨[0], by decide, (show 0 ≤ 1 by decide), ⟨.slc_eq rfl (fun _ _ => rfl), .own_eq rfl ⟨_, _, _, _, rfl⟩ ⟨_, _, _, _, rfl, Nat.le_of_eq (Nat.zero_add _)⟩ rfl (by simp), .int_eq rfl, trivial⟩, ⟨⟨fun h0 => absurd (show 0 < 0 from h0) (by decide), rfl, .inl (by simp), rfl, fz_row cI_pure⟩, trivial⟩⟩, ih9 _ _ _ h rfl⟩
 replace h := F_dec hb11 h
 exact ⟨[(3, .own 0 0 0 l7.length)], [.row 0 1 l7.length 3 (row cI l7)], ⟨[0], by decide, (show 0 ≤ 1 by decide), ⟨.own_eq rfl ⟨_, _, _, _, rfl⟩ ⟨_, _, _, _, rfl, Nat.le_of_eq (Nat.zero_add _)⟩ rfl rfl, trivial⟩, ⟨⟨fun h0 => absurd (show 0 < 0 from h0) (by decide), rfl, .inl rfl, rfl, fz_row cI_pure⟩, trivial⟩⟩, l7, Option.some.inj h, rfl, rfl⟩
 rintro _ _ ⟨l3, rfl, rfl, rfl⟩
 replace h := hk6
 refine .direct ?_
 obtain rfl := Option.some.inj h
 exact ⟨[], sl 1 cI l3, [], by decide, (show 0 ≤ 0 by decide), (fz_frz cI_pure (by first | decide | simp) rfl shows_all), trivial, rfl, rfl⟩
def m_l_eqIns (a0 : TIns) (a1 : TIns) : Option (Bool) :=
 (if a0.fOp = a1.fOp then
 (if a0.fA = a1.fA then
 (if a0.fB = a1.fB then
 (if a0.fS = a1.fS then
 (if a0.fT = a1.fT then
 some true
 else
 some false)
 else
 some false)
 else
 some false)
 else
 some false)
 else
 some false)
theorem ok_l_eqIns {a0 : TIns} {a1 : TIns} {r : Bool} (h : m_l_eqIns a0 a1 = some r) : ACall Try.prog 79 [.agg [.int .i64 a0.fOp, .int .i64 a0.fA, .int .i64 a0.fB, .str a0.fS, .str a0.fT], .agg [.int .i64 a1.fOp, .int .i64 a1.fA, .int .i64 a1.fB, .str a1.fS, .str a1.fT]] [] (fun res h => res = .bool r ∧ h = []) := by
 refine ACall.of_vc tabT_ok mixed Try.func79 rfl (by kernel_rfl) _ _ _ rfl (by kernel_rfl) ?_
 unfold m_l_eqIns at h
 refine .direct ?_
 refine .direct ?_
 refine .direct ?_
 refine ⟨rfl, ?_⟩
 refine ⟨rfl, _, rfl, ?_⟩
 refine ⟨rfl, ?_⟩
 refine ⟨rfl, _, rfl, ?_⟩
 refine splitB.mk (fun hb1 => ?_) (fun hb1 => ?_)
 replace h := T_bne hb1 h
 refine .direct ?_
 obtain rfl := Option.some.inj h
 exact ⟨[], .bool false, [], by decide, (show 0 ≤ 0 by decide), .bool_eq rfl, trivial, rfl, rfl⟩
 replace h := F_bne hb1 h
 refine .direct ?_
 refine .direct ?_
 refine ⟨rfl, ?_⟩
 refine ⟨rfl, _, rfl, ?_⟩
 refine ⟨rfl, ?_⟩
 refine ⟨rfl, _, rfl, ?_⟩
 refine splitB.mk (fun hb2 => ?_) (fun hb2 => ?_)
 replace h := T_bne hb2 h
 refine .direct ?_
 obtain rfl := Option.some.inj h
 exact ⟨[], .bool false, [], by decide, (show 0 ≤ 0 by decide), .bool_eq rfl, trivial, rfl, rfl⟩
 replace h := F_bne hb2 h
 refine .direct ?_
 refine .direct ?_
 refine ⟨rfl, ?_⟩
 refine ⟨rfl, _, rfl, ?_⟩
 refine ⟨rfl, ?_⟩
 refine ⟨rfl, _, rfl, ?_⟩
 refine splitB.mk (fun hb3 => ?_) (fun hb3 => ?_)
 replace h := T_bne hb3 h
 refine .direct ?_
 obtain rfl := Option.some.inj h
 exact ⟨[], .bool false, [], by decide, (show 0 ≤ 0 by decide), .bool_eq rfl, trivial, rfl, rfl⟩
 replace h := F_bne hb3 h
 refine .direct ?_
 refine .direct ?_
 refine ⟨rfl, ?_⟩
 refine ⟨rfl, _, rfl, ?_⟩
 refine ⟨rfl, ?_⟩
 refine ⟨rfl, _, rfl, ?_⟩
 refine splitB.mk (fun hb4 => ?_) (fun hb4 => ?_)
 have hb7 := not_F hb4
 replace h := F_beq hb7 h
 refine .direct ?_
 obtain rfl := Option.some.inj h
 exact ⟨[], .bool false, [], by decide, (show 0 ≤ 0 by decide), .bool_eq rfl, trivial, rfl, rfl⟩
 have hb7 := not_T hb4
 replace h := T_beq hb7 h
 refine .direct ?_
 refine .direct ?_
 refine ⟨rfl, ?_⟩
 refine ⟨rfl, _, rfl, ?_⟩
 refine ⟨rfl, ?_⟩
 refine ⟨rfl, _, rfl, ?_⟩
 refine splitB.mk (fun hb5 => ?_) (fun hb5 => ?_)
 have hb6 := not_F hb5
 replace h := F_beq hb6 h
 refine .direct ?_
 obtain rfl := Option.some.inj h
 exact ⟨[], .bool false, [], by decide, (show 0 ≤ 0 by decide), .bool_eq rfl, trivial, rfl, rfl⟩
 have hb6 := not_T hb5
 replace h := T_beq hb6 h
 refine .direct ?_
 obtain rfl := Option.some.inj h
 exact ⟨[], .bool true, [], by decide, (show 0 ≤ 0 by decide), .bool_eq rfl, trivial, rfl, rfl⟩
def m_l_eqParam (a0 : TParam) (a1 : TParam) : Option (Bool) :=
 (if a0.fName = a1.fName then
 (if a0.fRef = a1.fRef then
 some true
 else
 some false)
 else
 some false)
theorem ok_l_eqParam {a0 : TParam} {a1 : TParam} {r : Bool} (h : m_l_eqParam a0 a1 = some r) : ACall Try.prog 78 [.agg [.str a0.fName, .bool a0.fRef], .agg [.str a1.fName, .bool a1.fRef]] [] (fun res h => res = .bool r ∧ h = []) := by
 refine ACall.of_vc tabT_ok mixed Try.func78 rfl (by kernel_rfl) _ _ _ rfl (by kernel_rfl) ?_
 unfold m_l_eqParam at h
 refine .direct ?_
 refine .direct ?_
 refine .direct ?_
 refine ⟨rfl, ?_⟩
 refine ⟨rfl, _, rfl, ?_⟩
 refine ⟨rfl, ?_⟩
 refine ⟨rfl, _, rfl, ?_⟩
 refine splitB.mk (fun hb1 => ?_) (fun hb1 => ?_)
 have hb4 := not_F hb1
 replace h := F_beq hb4 h
 refine .direct ?_
 obtain rfl := Option.some.inj h
 exact ⟨[], .bool false, [], by decide, (show 0 ≤ 0 by decide), .bool_eq rfl, trivial, rfl, rfl⟩
 have hb4 := not_T hb1
 replace h := T_beq hb4 h
 refine .direct ?_
 refine .direct ?_
 refine ⟨rfl, ?_⟩
 refine ⟨rfl, _, rfl, ?_⟩
 refine ⟨rfl, ?_⟩
 refine ⟨rfl, _, rfl, ?_⟩
 refine splitB.mk (fun hb2 => ?_) (fun hb2 => ?_)
 have hb3 := not_F hb2
 replace h := F_beq hb3 h
 refine .direct ?_
 obtain rfl := Option.some.inj h
 exact ⟨[], .bool false, [], by decide, (show 0 ≤ 0 by decide), .bool_eq rfl, trivial, rfl, rfl⟩
 have hb3 := not_T hb2
 replace h := T_beq hb3 h
 refine .direct ?_
 obtain rfl := Option.some.inj h
 exact ⟨[], .bool true, [], by decide, (show 0 ≤ 0 by decide), .bool_eq rfl, trivial, rfl, rfl⟩
def m_l_eqInsS_L2 (a0 : List TIns) (a1 : List TIns) (y5 : Int) : Option ((Unit) ⊕ Bool) :=
 (if y5 < (a0.length : Int) then
 idx a0 y5 >>= fun x9 =>
 idx a1 y5 >>= fun x11 =>
 m_l_eqIns x9 x11 >>= fun v13 =>
 (if v13 = true then
 m_l_eqInsS_L2 a0 a1 (W64 (y5 + 1))
 else
 some (.inr false))
 else
 some (.inl ()))
partial_fixpoint
def m_l_eqInsS (a0 : List TIns) (a1 : List TIns) : Option (Bool) :=
 (if (a0.length : Int) = (a1.length : Int) then
 ((
 m_l_eqInsS_L2 a0 a1 0
 : Option ((Unit) ⊕ Bool)) >>= fun o2 => match o2 with
 | .inr r => some r
 | .inl _ =>
 some true
 )
 else
 some false)
theorem ok_l_eqInsS {a0 : List TIns} {a1 : List TIns} {r : Bool} (h : m_l_eqInsS a0 a1 = some r) : ACall Try.prog 41 [sl 5 TIns.cells a0, sl 5 TIns.cells a1] [] (fun res h => res = .bool r ∧ h = []) := by
 refine ACall.of_vc tabT_ok mixed Try.func41 rfl (by kernel_rfl) _ _ _ rfl (by kernel_rfl) ?_
 unfold m_l_eqInsS at h
 refine .direct ?_
 refine .direct ?_
 refine .direct ?_
 refine splitB.mk (fun hb1 => ?_) (fun hb1 => ?_)
 replace h := T_bne hb1 h
 refine .direct ?_
 obtain rfl := Option.some.inj h
 exact ⟨[], .bool false, [], by decide, (show 0 ≤ 0 by decide), .bool_eq rfl, trivial, rfl, rfl⟩
 replace h := F_bne hb1 h
 obtain ⟨o2, ho3, hk4⟩ := bind_some h
 replace h := ho3
 refine .cut (fun σ η => .inl () = o2 ∧ σ = [] ∧ η = []) ?_ ?_
 refine .direct ?_
 refine LoopAt.enter [(0, sl 5 TIns.cells a0), (1, sl 5 TIns.cells a1), (5, .int .i64 0)] [] ⟨[], by decide, (show 0 ≤ 0 by decide), ⟨.slc_eq rfl (fun _ _ => rfl), .slc_eq rfl (fun _ _ => rfl), .int_eq rfl, trivial⟩, trivial⟩ ?_
 refine m_l_eqInsS_L2.partial_correctness a0 a1 (motive := fun y5 o17 => o2 = o17 → LoopAt _ _ [(0, sl 5 TIns.cells a0), (1, sl 5 TIns.cells a1), (5, .int .i64 y5)] []) ?_ 0 o2 h rfl
 intro F7 ih6 y5 o17 h hr18
 subst hr18
 refine LoopAt.round ?_
 refine .direct ?_
 refine .direct ?_
 refine splitB.mk (fun hb8 => ?_) (fun hb8 => ?_)
 replace h := T_dec hb8 h
 refine .direct ?_
 refine .direct ?_
 refine .float [(0, true), (1, true), (2, true), (3, true), (4, true), (5, true), (6, true), (7, true), (8, false), (9, true)] (by kernel_rfl) ?_
 obtain ⟨x9, hx10, h⟩ := bind_some h
 refine ⟨idx_bd hx10, _, (idx_row hx10).trans (TIns.cells_eq x9), ?_⟩
 obtain ⟨x11, hx12, h⟩ := bind_some h
 refine ⟨idx_bd hx12, _, (idx_row hx12).trans (TIns.cells_eq x11), ?_⟩
 obtain ⟨v13, hv14, h⟩ := bind_some h
 refine ⟨_, ACall.pure0 (ok_l_eqIns hv14) _ rfl (fun _ => rfl), ?_⟩
 rintro _ _ ⟨rfl, rfl⟩
 refine splitB.mk (fun hb15 => ?_) (fun hb15 => ?_)
 have hb16 := not_F hb15
 replace h := F_var hb16 h
 refine .direct ?_
 obtain rfl := Option.some.inj h
 replace h := hk4
 obtain rfl := Option.some.inj h
 exact ⟨[], .bool false, [], by decide, (show 0 ≤ 0 by decide), .bool_eq rfl, trivial, rfl, rfl⟩
 have hb16 := not_T hb15
 replace h := T_var hb16 h
 exact ⟨[(0, sl 5 TIns.cells a0), (1, sl 5 TIns.cells a1), (5, .int .i64 (W64 (y5 + 1)))], [], ⟨[], by decide, (show 0 ≤ 0 by decide), ⟨.slc_eq rfl (fun _ _ => rfl), .slc_eq rfl (fun _ _ => rfl), .int_eq rfl, trivial⟩, trivial⟩, ih6 _ _ h rfl⟩
 replace h := F_dec hb8 h
 exact ⟨[], [], ⟨[], by decide, (show 0 ≤ 0 by decide), trivial, trivial⟩, Option.some.inj h, rfl, rfl⟩
 rintro _ _ ⟨rfl, rfl, rfl⟩
 replace h := hk4
 refine .direct ?_
 obtain rfl := Option.some.inj h
 exact ⟨[], .bool true, [], by decide, (show 0 ≤ 0 by decide), .bool_eq rfl, trivial, rfl, rfl⟩
def m_l_eqParamS_L2 (a0 : List TParam) (a1 : List TParam) (y5 : Int) : Option ((Unit) ⊕ Bool) :=
 (if y5 < (a0.length : Int) then
 idx a0 y5 >>= fun x9 =>
 idx a1 y5 >>= fun x11 =>
 m_l_eqParam x9 x11 >>= fun v13 =>
 (if v13 = true then
 m_l_eqParamS_L2 a0 a1 (W64 (y5 + 1))
 else
 some (.inr false))
 else
 some (.inl ()))
partial_fixpoint
def m_l_eqParamS (a0 : List TParam) (a1 : List TParam) : Option (Bool) :=
 (if (a0.length : Int) = (a1.length : Int) then
 ((
 m_l_eqParamS_L2 a0 a1 0
 : Option ((Unit) ⊕ Bool)) >>= fun o2 => match o2 with
 | .inr r => some r
 | .inl _ =>
 some true
 )
 else
 some false)
theorem ok_l_eqParamS {a0 : List TParam} {a1 : List TParam} {r : Bool} (h : m_l_eqParamS a0 a1 = some r) : ACall Try.prog 39 [sl 2 TParam.cells a0, sl 2 TParam.cells a1] [] (fun res h => res = .bool r ∧ h = []) := by
 refine ACall.of_vc tabT_ok mixed Try.func39 rfl (by kernel_rfl) _ _ _ rfl (by kernel_rfl) ?_
 unfold m_l_eqParamS at h
 refine .direct ?_
 refine .direct ?_
 refine .direct ?_
 refine splitB.mk (fun hb1 => ?_) (fun hb1 => ?_)
 replace h := T_bne hb1 h
 refine .direct ?_
 obtain rfl := Option.some.inj h
 exact ⟨[], .bool false, [], by decide, (show 0 ≤ 0 by decide), .bool_eq rfl, trivial, rfl, rfl⟩
 replace h := F_bne hb1 h
 obtain ⟨o2, ho3, hk4⟩ := bind_some h
 replace h := ho3
 refine .cut (fun σ η => .inl () = o2 ∧ σ = [] ∧ η = []) ?_ ?_
 refine .direct ?_
 refine LoopAt.enter [(0, sl 2 TParam.cells a0), (1, sl 2 TParam.cells a1), (5, .int .i64 0)] [] ⟨[], by decide, (show 0 ≤ 0 by decide), ⟨.slc_eq rfl (fun _ _ => rfl), .slc_eq rfl (fun _ _ => rfl), .int_eq rfl, trivial⟩, trivial⟩ ?_
 refine m_l_eqParamS_L2.partial_correctness a0 a1 (motive := fun y5 o17 => o2 = o17 → LoopAt _ _ [(0, sl 2 TParam.cells a0), (1, sl 2 TParam.cells a1), (5, .int .i64 y5)] []) ?_ 0 o2 h rfl
 intro F7 ih6 y5 o17 h hr18
 subst hr18
 refine LoopAt.round ?_
 refine .direct ?_
 refine .direct ?_
 refine splitB.mk (fun hb8 => ?_) (fun hb8 => ?_)
 replace h := T_dec hb8 h
 refine .direct ?_
 refine .direct ?_
 refine .float [(0, true), (1, true), (2, true), (3, true), (4, true), (5, true), (6, true), (7, true), (8, false), (9, true)] (by kernel_rfl) ?_
 obtain ⟨x9, hx10, h⟩ := bind_some h
 refine ⟨idx_bd hx10, _, (idx_row hx10).trans (TParam.cells_eq x9), ?_⟩
 obtain ⟨x11, hx12, h⟩ := bind_some h
 refine ⟨idx_bd hx12, _, (idx_row hx12).trans (TParam.cells_eq x11), ?_⟩
 obtain ⟨v13, hv14, h⟩ := bind_some h
 refine ⟨_, ACall.pure0 (ok_l_eqParam hv14) _ rfl (fun _ => rfl), ?_⟩
 rintro _ _ ⟨rfl, rfl⟩
 refine splitB.mk (fun hb15 => ?_) (fun hb15 => ?_)
 have hb16 := not_F hb15
 replace h := F_var hb16 h
 refine .direct ?_
 obtain rfl := Option.some.inj h
 replace h := hk4
 obtain rfl := Option.some.inj h
 exact ⟨[], .bool false, [], by decide, (show 0 ≤ 0 by decide), .bool_eq rfl, trivial, rfl, rfl⟩
 have hb16 := not_T hb15
 replace h := T_var hb16 h
 exact ⟨[(0, sl 2 TParam.cells a0), (1, sl 2 TParam.cells a1), (5, .int .i64 (W64 (y5 + 1)))], [], ⟨[], by decide, (show 0 ≤ 0 by decide), ⟨.slc_eq rfl (fun _ _ => rfl), .slc_eq rfl (fun _ _ => rfl), .int_eq rfl, trivial⟩, trivial⟩, ih6 _ _ h rfl⟩
 replace h := F_dec hb8 h
 exact ⟨[], [], ⟨[], by decide, (show 0 ≤ 0 by decide), trivial, trivial⟩, Option.some.inj h, rfl, rfl⟩
 rintro _ _ ⟨rfl, rfl, rfl⟩
 replace h := hk4
 refine .direct ?_
 obtain rfl := Option.some.inj h
 exact ⟨[], .bool true, [], by decide, (show 0 ≤ 0 by decide), .bool_eq rfl, trivial, rfl, rfl⟩
def m_l_eqStringS_L2 (a0 : List Str) (a1 : List Str) (y5 : Int) : Option ((Unit) ⊕ Bool) :=
 (if y5 < (a0.length : Int) then
 idx a0 y5 >>= fun x9 =>
 idx a1 y5 >>= fun x11 =>
 (if x9 = x11 then
 m_l_eqStringS_L2 a0 a1 (W64 (y5 + 1))
 else
 some (.inr false))
 else
 some (.inl ()))
partial_fixpoint
def m_l_eqStringS (a0 : List Str) (a1 : List Str) : Option (Bool) :=
 (if (a0.length : Int) = (a1.length : Int) then
 ((
 m_l_eqStringS_L2 a0 a1 0
 : Option ((Unit) ⊕ Bool)) >>= fun o2 => match o2 with
 | .inr r => some r
 | .inl _ =>
 some true
 )
 else
 some false)
theorem ok_l_eqStringS {a0 : List Str} {a1 : List Str} {r : Bool} (h : m_l_eqStringS a0 a1 = some r) : ACall Try.prog 40 [sl 1 cS a0, sl 1 cS a1] [] (fun res h => res = .bool r ∧ h = []) := by
 refine ACall.of_vc tabT_ok mixed Try.func40 rfl (by kernel_rfl) _ _ _ rfl (by kernel_rfl) ?_
 unfold m_l_eqStringS at h
 refine .direct ?_
 refine .direct ?_
 refine .direct ?_
 refine splitB.mk (fun hb1 => ?_) (fun hb1 => ?_)
 replace h := T_bne hb1 h
 refine .direct ?_
 obtain rfl := Option.some.inj h
 exact ⟨[], .bool false, [], by decide, (show 0 ≤ 0 by decide), .bool_eq rfl, trivial, rfl, rfl⟩
 replace h := F_bne hb1 h
 obtain ⟨o2, ho3, hk4⟩ := bind_some h
 replace h := ho3
 refine .cut (fun σ η => .inl () = o2 ∧ σ = [] ∧ η = []) ?_ ?_
 refine .direct ?_
 refine LoopAt.enter [(0, sl 1 cS a0), (1, sl 1 cS a1), (5, .int .i64 0)] [] ⟨[], by decide, (show 0 ≤ 0 by decide), ⟨.slc_eq rfl (fun _ _ => rfl), .slc_eq rfl (fun _ _ => rfl), .int_eq rfl, trivial⟩, trivial⟩ ?_
 refine m_l_eqStringS_L2.partial_correctness a0 a1 (motive := fun y5 o15 => o2 = o15 → LoopAt _ _ [(0, sl 1 cS a0), (1, sl 1 cS a1), (5, .int .i64 y5)] []) ?_ 0 o2 h rfl
 intro F7 ih6 y5 o15 h hr16
 subst hr16
 refine LoopAt.round ?_
 refine .direct ?_
 refine .direct ?_
 refine splitB.mk (fun hb8 => ?_) (fun hb8 => ?_)
 replace h := T_dec hb8 h
 refine .direct ?_
 refine .direct ?_
 obtain ⟨x9, hx10, h⟩ := bind_some h
 refine ⟨idx_bd hx10, _, (idx_row hx10).trans rfl, ?_⟩
 obtain ⟨x11, hx12, h⟩ := bind_some h
 refine ⟨idx_bd hx12, _, (idx_row hx12).trans rfl, ?_⟩
 refine splitB.mk (fun hb13 => ?_) (fun hb13 => ?_)
 have hb14 := not_F hb13
 replace h := F_beq hb14 h
 refine .direct ?_
 obtain rfl := Option.some.inj h
 replace h := hk4
 obtain rfl := Option.some.inj h
 exact ⟨[], .bool false, [], by decide, (show 0 ≤ 0 by decide), .bool_eq rfl, trivial, rfl, rfl⟩
 have hb14 := not_T hb13
 replace h := T_beq hb14 h
 exact ⟨[(0, sl 1 cS a0), (1, sl 1 cS a1), (5, .int .i64 (W64 (y5 + 1)))], [], ⟨[], by decide, (show 0 ≤ 0 by decide), ⟨.slc_eq rfl (fun _ _ => rfl), .slc_eq rfl (fun _ _ => rfl), .int_eq rfl, trivial⟩, trivial⟩, ih6 _ _ h rfl⟩
 replace h := F_dec hb8 h
 exact ⟨[], [], ⟨[], by decide, (show 0 ≤ 0 by decide), trivial, trivial⟩, Option.some.inj h, rfl, rfl⟩
 rintro _ _ ⟨rfl, rfl, rfl⟩
 replace h := hk4
 refine .direct ?_
 obtain rfl := Option.some.inj h
 exact ⟨[], .bool true, [], by decide, (show 0 ≤ 0 by decide), .bool_eq rfl, trivial, rfl, rfl⟩
def m_l_eqFunc (a0 : TFunc) (a1 : TFunc) : Option (Bool) :=
 (if a0.fName = a1.fName then
 m_l_eqParamS a0.fParams a1.fParams >>= fun v2 =>
 (if v2 = true then
 m_l_eqParamS a0.fUses a1.fUses >>= fun v5 =>
 (if v5 = true then
 m_l_eqStringS a0.fSlots a1.fSlots >>= fun v8 =>
 (if v8 = true then
 (if a0.fGen = a1.fGen then
 m_l_eqInsS a0.fCode a1.fCode >>= fun v12 =>
 (if v12 = true then
 some true
 else
 some false)
 else
 some false)
 else
 some false)
 else
 some false)
 else
 some false)
 else
 some false)
theorem ok_l_eqFunc {a0 : TFunc} {a1 : TFunc} {r : Bool} (h : m_l_eqFunc a0 a1 = some r) : ACall Try.prog 12 [.agg [.str a0.fName, sl 2 TParam.cells a0.fParams, sl 2 TParam.cells a0.fUses, sl 1 cS a0.fSlots, .bool a0.fGen, sl 5 TIns.cells a0.fCode], .agg [.str a1.fName, sl 2 TParam.cells a1.fParams, sl 2 TParam.cells a1.fUses, sl 1 cS a1.fSlots, .bool a1.fGen, sl 5 TIns.cells a1.fCode]] [] (fun res h => res = .bool r ∧ h = []) := by
 refine ACall.of_vc tabT_ok mixed Try.func12 rfl (by kernel_rfl) _ _ _ rfl (by kernel_rfl) ?_
 unfold m_l_eqFunc at h
 refine .direct ?_
 refine .direct ?_
 refine .direct ?_
 refine ⟨rfl, ?_⟩
 refine ⟨rfl, _, rfl, ?_⟩
 refine ⟨rfl, ?_⟩
 refine ⟨rfl, _, rfl, ?_⟩
 refine splitB.mk (fun hb1 => ?_) (fun hb1 => ?_)
 have hb20 := not_F hb1
 replace h := F_beq hb20 h
 refine .direct ?_
 obtain rfl := Option.some.inj h
 exact ⟨[], .bool false, [], by decide, (show 0 ≤ 0 by decide), .bool_eq rfl, trivial, rfl, rfl⟩
 have hb20 := not_T hb1
 replace h := T_beq hb20 h
 refine .direct ?_
 refine .direct ?_
 refine ⟨rfl, ?_⟩
 refine ⟨rfl, _, rfl, ?_⟩
 refine ⟨rfl, ?_⟩
 refine ⟨rfl, _, rfl, ?_⟩
 obtain ⟨v2, hv3, h⟩ := bind_some h
 refine ⟨_, ACall.pure0 (ok_l_eqParamS hv3) _ rfl (fun _ => rfl), ?_⟩
 rintro _ _ ⟨rfl, rfl⟩
 refine splitB.mk (fun hb4 => ?_) (fun hb4 => ?_)
 have hb19 := not_F hb4
 replace h := F_var hb19 h
 refine .direct ?_
 obtain rfl := Option.some.inj h
 exact ⟨[], .bool false, [], by decide, (show 0 ≤ 0 by decide), .bool_eq rfl, trivial, rfl, rfl⟩
 have hb19 := not_T hb4
 replace h := T_var hb19 h
 refine .direct ?_
 refine .direct ?_
 refine ⟨rfl, ?_⟩
 refine ⟨rfl, _, rfl, ?_⟩
 refine ⟨rfl, ?_⟩
 refine ⟨rfl, _, rfl, ?_⟩
 obtain ⟨v5, hv6, h⟩ := bind_some h
 refine ⟨_, ACall.pure0 (ok_l_eqParamS hv6) _ rfl (fun _ => rfl), ?_⟩
 rintro _ _ ⟨rfl, rfl⟩
 refine splitB.mk (fun hb7 => ?_) (fun hb7 => ?_)
 have hb18 := not_F hb7
 replace h := F_var hb18 h
 refine .direct ?_
 obtain rfl := Option.some.inj h
 exact ⟨[], .bool false, [], by decide, (show 0 ≤ 0 by decide), .bool_eq rfl, trivial, rfl, rfl⟩
 have hb18 := not_T hb7
 replace h := T_var hb18 h
 refine .direct ?_
 refine .direct ?_
 refine ⟨rfl, ?_⟩
 refine ⟨rfl, _, rfl, ?_⟩
 refine ⟨rfl, ?_⟩
 refine ⟨rfl, _, rfl, ?_⟩
 obtain ⟨v8, hv9, h⟩ := bind_some h
 refine ⟨_, ACall.pure0 (ok_l_eqStringS hv9) _ rfl (fun _ => rfl), ?_⟩
 rintro _ _ ⟨rfl, rfl⟩
 refine splitB.mk (fun hb10 => ?_) (fun hb10 => ?_)
 have hb17 := not_F hb10
 replace h := F_var hb17 h
 refine .direct ?_
 obtain rfl := Option.some.inj h
 exact ⟨[], .bool false, [], by decide, (show 0 ≤ 0 by decide), .bool_eq rfl, trivial, rfl, rfl⟩
 have hb17 := not_T hb10
 replace h := T_var hb17 h
 refine .direct ?_
 refine .direct ?_
 refine ⟨rfl, ?_⟩
 refine ⟨rfl, _, rfl, ?_⟩
 refine ⟨rfl, ?_⟩
 refine ⟨rfl, _, rfl, ?_⟩
 refine splitB.mk (fun hb11 => ?_) (fun hb11 => ?_)
 have hb16 := not_F hb11
 replace h := F_beq hb16 h
 refine .direct ?_
 obtain rfl := Option.some.inj h
 exact ⟨[], .bool false, [], by decide, (show 0 ≤ 0 by decide), .bool_eq rfl, trivial, rfl, rfl⟩
 have hb16 := not_T hb11
 replace h := T_beq hb16 h
 refine .direct ?_
 refine .direct ?_
 refine ⟨rfl, ?_⟩
 refine ⟨rfl, _, rfl, ?_⟩
 refine ⟨rfl, ?_⟩
 refine ⟨rfl, _, rfl, ?_⟩
 obtain ⟨v12, hv13, h⟩ := bind_some h
 refine ⟨_, ACall.pure0 (ok_l_eqInsS hv13) _ rfl (fun _ => rfl), ?_⟩
 rintro _ _ ⟨rfl, rfl⟩
 refine splitB.mk (fun hb14 => ?_) (fun hb14 => ?_)
 have hb15 := not_F hb14
 replace h := F_var hb15 h
 refine .direct ?_
 obtain rfl := Option.some.inj h
 exact ⟨[], .bool false, [], by decide, (show 0 ≤ 0 by decide), .bool_eq rfl, trivial, rfl, rfl⟩
 have hb15 := not_T hb14
 replace h := T_var hb15 h
 refine .direct ?_
 obtain rfl := Option.some.inj h
 exact ⟨[], .bool true, [], by decide, (show 0 ≤ 0 by decide), .bool_eq rfl, trivial, rfl, rfl⟩
def m_l_eqIntS_L2 (a0 : List Int) (a1 : List Int) (y5 : Int) : Option ((Unit) ⊕ Bool) :=
 (if y5 < (a0.length : Int) then
 idx a0 y5 >>= fun x9 =>
 idx a1 y5 >>= fun x11 =>
 (if x9 = x11 then
 m_l_eqIntS_L2 a0 a1 (W64 (y5 + 1))
 else
 some (.inr false))
 else
 some (.inl ()))
partial_fixpoint
def m_l_eqIntS (a0 : List Int) (a1 : List Int) : Option (Bool) :=
 (if (a0.length : Int) = (a1.length : Int) then
 ((
 m_l_eqIntS_L2 a0 a1 0
 : Option ((Unit) ⊕ Bool)) >>= fun o2 => match o2 with
 | .inr r => some r
 | .inl _ =>
 some true
 )
 else
 some false)
theorem ok_l_eqIntS {a0 : List Int} {a1 : List Int} {r : Bool} (h : m_l_eqIntS a0 a1 = some r) : ACall Try.prog 13 [sl 1 cI a0, sl 1 cI a1] [] (fun res h => res = .bool r ∧ h = []) := by
 refine ACall.of_vc tabT_ok mixed Try.func13 rfl (by kernel_rfl) _ _ _ rfl (by kernel_rfl) ?_
 unfold m_l_eqIntS at h
 refine .direct ?_
 refine .direct ?_
 refine .direct ?_
 refine splitB.mk (fun hb1 => ?_) (fun hb1 => ?_)
 replace h := T_bne hb1 h
 refine .direct ?_
 obtain rfl := Option.some.inj h
 exact ⟨[], .bool false, [], by decide, (show 0 ≤ 0 by decide), .bool_eq rfl, trivial, rfl, rfl⟩
 replace h := F_bne hb1 h
 obtain ⟨o2, ho3, hk4⟩ := bind_some h
 replace h := ho3
 refine .cut (fun σ η => .inl () = o2 ∧ σ = [] ∧ η = []) ?_ ?_
 refine .direct ?_
 refine LoopAt.enter [(0, sl 1 cI a0), (1, sl 1 cI a1), (5, .int .i64 0)] [] ⟨[], by decide, (show 0 ≤ 0 by decide), ⟨.slc_eq rfl (fun _ _ => rfl), .slc_eq rfl (fun _ _ => rfl), .int_eq rfl, trivial⟩, trivial⟩ ?_
 refine m_l_eqIntS_L2.partial_correctness a0 a1 (motive := fun y5 o14 => o2 = o14 → LoopAt _ _ [(0, sl 1 cI a0), (1, sl 1 cI a1), (5, .int .i64 y5)] []) ?_ 0 o2 h rfl
 intro F7 ih6 y5 o14 h hr15
 subst hr15
 refine LoopAt.round ?_
 refine .direct ?_
 refine .direct ?_
 refine splitB.mk (fun hb8 => ?_) (fun hb8 => ?_)
 replace h := T_dec hb8 h
 refine .direct ?_
 refine .direct ?_
 obtain ⟨x9, hx10, h⟩ := bind_some h
 refine ⟨idx_bd hx10, _, (idx_row hx10).trans rfl, ?_⟩
 obtain ⟨x11, hx12, h⟩ := bind_some h
 refine ⟨idx_bd hx12, _, (idx_row hx12).trans rfl, ?_⟩
 refine splitB.mk (fun hb13 => ?_) (fun hb13 => ?_)
 replace h := T_bne hb13 h
 refine .direct ?_
 obtain rfl := Option.some.inj h
 replace h := hk4
 obtain rfl := Option.some.inj h
 exact ⟨[], .bool false, [], by decide, (show 0 ≤ 0 by decide), .bool_eq rfl, trivial, rfl, rfl⟩
 replace h := F_bne hb13 h
 exact ⟨[(0, sl 1 cI a0), (1, sl 1 cI a1), (5, .int .i64 (W64 (y5 + 1)))], [], ⟨[], by decide, (show 0 ≤ 0 by decide), ⟨.slc_eq rfl (fun _ _ => rfl), .slc_eq rfl (fun _ _ => rfl), .int_eq rfl, trivial⟩, trivial⟩, ih6 _ _ h rfl⟩
 replace h := F_dec hb8 h
 exact ⟨[], [], ⟨[], by decide, (show 0 ≤ 0 by decide), trivial, trivial⟩, Option.some.inj h, rfl, rfl⟩
 rintro _ _ ⟨rfl, rfl, rfl⟩
 replace h := hk4
 refine .direct ?_
 obtain rfl := Option.some.inj h
 exact ⟨[], .bool true, [], by decide, (show 0 ≤ 0 by decide), .bool_eq rfl, trivial, rfl, rfl⟩
def m_l_FnExactCheckDrop (a0 : TFunc) (a1 : TFunc) (a2 : List Int) : Option (Bool) :=
 (if (a2.length : Int) > 1048576 then
 some true
 else
 m_l_szFunc a0 1048576 >>= fun v2 =>
 (if v2 < 0 then
 some true
 else
 m_l_szFunc a1 v2 >>= fun v5 =>
 (if v5 < 0 then
 some true
 else
 m_l_toFunc a0 >>= fun v8 =>
 m_l_toFunc a1 >>= fun v10 =>
 m_l_toIntS a2 >>= fun v12 =>
 m_s_CheckDrop v8 v10 v12 >>= fun v14 =>
 m_l_toFunc a0 >>= fun v16 =>
 m_l_toFunc a1 >>= fun v18 =>
 m_l_toIntS a2 >>= fun v20 =>
 m_i_CheckDrop v16 v18 v20 >>= fun v22 =>
 (if v22 = v14 then
 m_l_toFunc a0 >>= fun v25 =>
 m_l_eqFunc v16 v25 >>= fun v27 =>
 (if v27 = true then
 m_l_toFunc a1 >>= fun v30 =>
 m_l_eqFunc v18 v30 >>= fun v32 =>
 (if v32 = true then
 m_l_toIntS a2 >>= fun v35 =>
 m_l_eqIntS v20 v35 >>= fun v37 =>
 (if v37 = true then
 some true
 else
 some false)
 else
 some false)
 else
 some false)
 else
 some false))))
theorem ok_l_FnExactCheckDrop {a0 : TFunc} {a1 : TFunc} {a2 : List Int} {r : Bool} (h : m_l_FnExactCheckDrop a0 a1 a2 = some r) : ACall Try.prog 3 [.agg [.str a0.fName, sl 2 TParam.cells a0.fParams, sl 2 TParam.cells a0.fUses, sl 1 cS a0.fSlots, .bool a0.fGen, sl 5 TIns.cells a0.fCode], .agg [.str a1.fName, sl 2 TParam.cells a1.fParams, sl 2 TParam.cells a1.fUses, sl 1 cS a1.fSlots, .bool a1.fGen, sl 5 TIns.cells a1.fCode], sl 1 cI a2] [] (fun res h => res = .bool r ∧ h = []) := by
 refine ACall.of_vc tabT_ok mixed Try.func3 rfl (by kernel_rfl) _ _ _ rfl (by kernel_rfl) ?_
 unfold m_l_FnExactCheckDrop at h
 refine .direct ?_
 refine .direct ?_
 refine .direct ?_
 refine splitB.mk (fun hb1 => ?_) (fun hb1 => ?_)
 replace h := T_dec hb1 h
 refine .direct ?_
 obtain rfl := Option.some.inj h
 exact ⟨[], .bool true, [], by decide, (show 0 ≤ 0 by decide), .bool_eq rfl, trivial, rfl, rfl⟩
 replace h := F_dec hb1 h
 refine .direct ?_
 refine .direct ?_
 refine ⟨rfl, _, rfl, ?_⟩
 obtain ⟨v2, hv3, h⟩ := bind_some h
 refine ⟨_, ACall.pure0 (ok_l_szFunc hv3) _ rfl (fun _ => rfl), ?_⟩
 rintro _ _ ⟨rfl, rfl⟩
 refine .direct ?_
 refine .direct ?_
 refine splitB.mk (fun hb4 => ?_) (fun hb4 => ?_)
 replace h := T_dec hb4 h
 refine .direct ?_
 obtain rfl := Option.some.inj h
 exact ⟨[], .bool true, [], by decide, (show 0 ≤ 0 by decide), .bool_eq rfl, trivial, rfl, rfl⟩
 replace h := F_dec hb4 h
 refine .direct ?_
 refine ⟨rfl, _, rfl, ?_⟩
 obtain ⟨v5, hv6, h⟩ := bind_some h
 refine ⟨_, ACall.pure0 (ok_l_szFunc hv6) _ rfl (fun _ => rfl), ?_⟩
 rintro _ _ ⟨rfl, rfl⟩
 refine .direct ?_
 refine .direct ?_
 refine splitB.mk (fun hb7 => ?_) (fun hb7 => ?_)
 replace h := T_dec hb7 h
 refine .direct ?_
 obtain rfl := Option.some.inj h
 exact ⟨[], .bool true, [], by decide, (show 0 ≤ 0 by decide), .bool_eq rfl, trivial, rfl, rfl⟩
 replace h := F_dec hb7 h
 refine .direct ?_
 refine .float [(0, true), (2, true), (4, true), (1, false), (3, false), (5, false), (6, false), (7, true)] (by kernel_rfl) ?_
 refine ⟨rfl, _, rfl, ?_⟩
 refine ⟨rfl, _, rfl, ?_⟩
 obtain ⟨v8, hv9, h⟩ := bind_some h
 refine ⟨_, ACall.pure0 (ok_l_toFunc hv9) _ rfl (fun _ => rfl), ?_⟩
 rintro _ _ ⟨rfl, rfl⟩
 refine ⟨rfl, ?_⟩
 obtain ⟨v10, hv11, h⟩ := bind_some h
 refine ⟨_, ACall.pure0 (ok_l_toFunc hv11) _ rfl (fun _ => rfl), ?_⟩
 rintro _ _ ⟨rfl, rfl⟩
 obtain ⟨v12, hv13, h⟩ := bind_some h
 refine ⟨_, ACall.pure0 (ok_l_toIntS hv13) _ rfl (fun _ => rfl), ?_⟩
 rintro _ _ ⟨rfl, rfl⟩
 obtain ⟨v14, hv15, h⟩ := bind_some h
 refine ⟨_, ACall.pure0 (ok_s_CheckDrop hv15) _ rfl (fun _ => rfl), ?_⟩
 rintro _ _ ⟨rfl, rfl⟩
 refine .direct ?_
 refine ⟨rfl, _, rfl, ?_⟩
 obtain ⟨v16, hv17, h⟩ := bind_some h
 refine ⟨_, ACall.pure0 (ok_l_toFunc hv17) _ rfl (fun _ => rfl), ?_⟩
 rintro _ _ ⟨rfl, rfl⟩
 refine ⟨rfl, _, fun _ => [.str v16.fName, sl 2 TParam.cells v16.fParams, sl 2 TParam.cells v16.fUses, sl 1 cS v16.fSlots, .bool v16.fGen, sl 5 TIns.cells v16.fCode], rfl, one_set rfl, ?_⟩
 refine .direct ?_
 refine ⟨rfl, _, rfl, ?_⟩
 obtain ⟨v18, hv19, h⟩ := bind_some h
 refine ⟨_, ACall.pure0 (ok_l_toFunc hv19) _ rfl (fun _ => rfl), ?_⟩
 rintro _ _ ⟨rfl, rfl⟩
 refine ⟨rfl, _, fun _ => [.str v18.fName, sl 2 TParam.cells v18.fParams, sl 2 TParam.cells v18.fUses, sl 1 cS v18.fSlots, .bool v18.fGen, sl 5 TIns.cells v18.fCode], rfl, one_set rfl, ?_⟩
 refine .direct ?_
 obtain ⟨v20, hv21, h⟩ := bind_some h
 refine ⟨_, ACall.pure0 (ok_l_toIntS hv21) _ rfl (fun _ => rfl), ?_⟩
 rintro _ _ ⟨rfl, rfl⟩
 refine .direct ?_
 refine ⟨rfl, _, rfl, ?_⟩
 refine ⟨rfl, _, rfl, ?_⟩
 obtain ⟨v22, hv23, h⟩ := bind_some h
 refine ⟨_, ACall.pure0 (ok_i_CheckDrop hv23) _ rfl (fun _ => rfl), ?_⟩
 rintro _ _ ⟨rfl, rfl⟩
 refine .direct ?_
 refine .direct ?_
 refine splitB.mk (fun hb24 => ?_) (fun hb24 => ?_)
 have hb43 := not_F hb24
 replace h := F_beq hb43 h
 refine .direct ?_
 obtain rfl := Option.some.inj h
 exact ⟨[], .bool false, [], by decide, (show 0 ≤ 0 by decide), .bool_eq rfl, trivial, rfl, rfl⟩
 have hb43 := not_T hb24
 replace h := T_beq hb43 h
 refine .direct ?_
 refine .direct ?_
 refine .float [(0, true), (1, true), (2, false), (3, false), (4, true)] (by kernel_rfl) ?_
 refine ⟨rfl, _, rfl, ?_⟩
 refine ⟨rfl, _, rfl, ?_⟩
 obtain ⟨v25, hv26, h⟩ := bind_some h
 refine ⟨_, ACall.pure0 (ok_l_toFunc hv26) _ rfl (fun _ => rfl), ?_⟩
 rintro _ _ ⟨rfl, rfl⟩
 refine ⟨rfl, ?_⟩
 obtain ⟨v27, hv28, h⟩ := bind_some h
 refine ⟨_, ACall.pure0 (ok_l_eqFunc hv28) _ rfl (fun _ => rfl), ?_⟩
 rintro _ _ ⟨rfl, rfl⟩
 refine splitB.mk (fun hb29 => ?_) (fun hb29 => ?_)
 have hb42 := not_F hb29
 replace h := F_var hb42 h
 refine .direct ?_
 obtain rfl := Option.some.inj h
 exact ⟨[], .bool false, [], by decide, (show 0 ≤ 0 by decide), .bool_eq rfl, trivial, rfl, rfl⟩
 have hb42 := not_T hb29
 replace h := T_var hb42 h
 refine .direct ?_
 refine .direct ?_
 refine .float [(0, true), (1, true), (2, false), (3, false), (4, true)] (by kernel_rfl) ?_
 refine ⟨rfl, _, rfl, ?_⟩
 refine ⟨rfl, _, rfl, ?_⟩
 obtain ⟨v30, hv31, h⟩ := bind_some h
 refine ⟨_, ACall.pure0 (ok_l_toFunc hv31) _ rfl (fun _ => rfl), ?_⟩
 rintro _ _ ⟨rfl, rfl⟩
 refine ⟨rfl, ?_⟩
 obtain ⟨v32, hv33, h⟩ := bind_some h
 refine ⟨_, ACall.pure0 (ok_l_eqFunc hv33) _ rfl (fun _ => rfl), ?_⟩
 rintro _ _ ⟨rfl, rfl⟩
 refine splitB.mk (fun hb34 => ?_) (fun hb34 => ?_)
 have hb41 := not_F hb34
 replace h := F_var hb41 h
 refine .direct ?_
 obtain rfl := Option.some.inj h
 exact ⟨[], .bool false, [], by decide, (show 0 ≤ 0 by decide), .bool_eq rfl, trivial, rfl, rfl⟩
 have hb41 := not_T hb34
 replace h := T_var hb41 h
 refine .direct ?_
 refine .direct ?_
 obtain ⟨v35, hv36, h⟩ := bind_some h
 refine ⟨_, ACall.pure0 (ok_l_toIntS hv36) _ rfl (fun _ => rfl), ?_⟩
 rintro _ _ ⟨rfl, rfl⟩
 obtain ⟨v37, hv38, h⟩ := bind_some h
 refine ⟨_, ACall.pure0 (ok_l_eqIntS hv38) _ rfl (fun _ => rfl), ?_⟩
 rintro _ _ ⟨rfl, rfl⟩
 refine splitB.mk (fun hb39 => ?_) (fun hb39 => ?_)
 have hb40 := not_F hb39
 replace h := F_var hb40 h
 refine .direct ?_
 obtain rfl := Option.some.inj h
 exact ⟨[], .bool false, [], by decide, (show 0 ≤ 0 by decide), .bool_eq rfl, trivial, rfl, rfl⟩
 have hb40 := not_T hb39
 replace h := T_var hb40 h
 refine .direct ?_
 obtain rfl := Option.some.inj h
 exact ⟨[], .bool true, [], by decide, (show 0 ≤ 0 by decide), .bool_eq rfl, trivial, rfl, rfl⟩
def m_l_FnExactCheckThread (a0 : TFunc) (a1 : TFunc) : Option (Bool) :=
 m_l_szFunc a0 1048576 >>= fun v1 =>
 (if v1 < 0 then
 some true
 else
 m_l_szFunc a1 v1 >>= fun v4 =>
 (if v4 < 0 then
 some true
 else
 m_l_toFunc a0 >>= fun v7 =>
 m_l_toFunc a1 >>= fun v9 =>
 m_s_CheckThread v7 v9 >>= fun v11 =>
 m_l_toFunc a0 >>= fun v13 =>
 m_l_toFunc a1 >>= fun v15 =>
 m_i_CheckThread v13 v15 >>= fun v17 =>
 (if v17 = v11 then
 m_l_toFunc a0 >>= fun v20 =>
 m_l_eqFunc v13 v20 >>= fun v22 =>
 (if v22 = true then
 m_l_toFunc a1 >>= fun v25 =>
 m_l_eqFunc v15 v25 >>= fun v27 =>
 (if v27 = true then
 some true
 else
 some false)
 else
 some false)
 else
 some false)))
theorem ok_l_FnExactCheckThread {a0 : TFunc} {a1 : TFunc} {r : Bool} (h : m_l_FnExactCheckThread a0 a1 = some r) : ACall Try.prog 4 [.agg [.str a0.fName, sl 2 TParam.cells a0.fParams, sl 2 TParam.cells a0.fUses, sl 1 cS a0.fSlots, .bool a0.fGen, sl 5 TIns.cells a0.fCode], .agg [.str a1.fName, sl 2 TParam.cells a1.fParams, sl 2 TParam.cells a1.fUses, sl 1 cS a1.fSlots, .bool a1.fGen, sl 5 TIns.cells a1.fCode]] [] (fun res h => res = .bool r ∧ h = []) := by
 refine ACall.of_vc tabT_ok mixed Try.func4 rfl (by kernel_rfl) _ _ _ rfl (by kernel_rfl) ?_
 unfold m_l_FnExactCheckThread at h
 refine .direct ?_
 refine .direct ?_
 refine .direct ?_
 refine ⟨rfl, _, rfl, ?_⟩
 obtain ⟨v1, hv2, h⟩ := bind_some h
 refine ⟨_, ACall.pure0 (ok_l_szFunc hv2) _ rfl (fun _ => rfl), ?_⟩
 rintro _ _ ⟨rfl, rfl⟩
 refine .direct ?_
 refine .direct ?_
 refine splitB.mk (fun hb3 => ?_) (fun hb3 => ?_)
 replace h := T_dec hb3 h
 refine .direct ?_
 obtain rfl := Option.some.inj h
 exact ⟨[], .bool true, [], by decide, (show 0 ≤ 0 by decide), .bool_eq rfl, trivial, rfl, rfl⟩
 replace h := F_dec hb3 h
 refine .direct ?_
 refine ⟨rfl, _, rfl, ?_⟩
 obtain ⟨v4, hv5, h⟩ := bind_some h
 refine ⟨_, ACall.pure0 (ok_l_szFunc hv5) _ rfl (fun _ => rfl), ?_⟩
 rintro _ _ ⟨rfl, rfl⟩
 refine .direct ?_
 refine .direct ?_
 refine splitB.mk (fun hb6 => ?_) (fun hb6 => ?_)
 replace h := T_dec hb6 h
 refine .direct ?_
 obtain rfl := Option.some.inj h
 exact ⟨[], .bool true, [], by decide, (show 0 ≤ 0 by decide), .bool_eq rfl, trivial, rfl, rfl⟩
 replace h := F_dec hb6 h
 refine .direct ?_
 refine .float [(0, true), (2, true), (1, false), (3, false), (4, false), (5, true)] (by kernel_rfl) ?_
 refine ⟨rfl, _, rfl, ?_⟩
 refine ⟨rfl, _, rfl, ?_⟩
 obtain ⟨v7, hv8, h⟩ := bind_some h
 refine ⟨_, ACall.pure0 (ok_l_toFunc hv8) _ rfl (fun _ => rfl), ?_⟩
 rintro _ _ ⟨rfl, rfl⟩
 refine ⟨rfl, ?_⟩
 obtain ⟨v9, hv10, h⟩ := bind_some h
 refine ⟨_, ACall.pure0 (ok_l_toFunc hv10) _ rfl (fun _ => rfl), ?_⟩
 rintro _ _ ⟨rfl, rfl⟩
 obtain ⟨v11, hv12, h⟩ := bind_some h
 refine ⟨_, ACall.pure0 (ok_s_CheckThread hv12) _ rfl (fun _ => rfl), ?_⟩
 rintro _ _ ⟨rfl, rfl⟩
 refine .direct ?_
 refine ⟨rfl, _, rfl, ?_⟩
 obtain ⟨v13, hv14, h⟩ := bind_some h
 refine ⟨_, ACall.pure0 (ok_l_toFunc hv14) _ rfl (fun _ => rfl), ?_⟩
 rintro _ _ ⟨rfl, rfl⟩
 refine ⟨rfl, _, fun _ => [.str v13.fName, sl 2 TParam.cells v13.fParams, sl 2 TParam.cells v13.fUses, sl 1 cS v13.fSlots, .bool v13.fGen, sl 5 TIns.cells v13.fCode], rfl, one_set rfl, ?_⟩
 refine .direct ?_
 refine ⟨rfl, _, rfl, ?_⟩
 obtain ⟨v15, hv16, h⟩ := bind_some h
 refine ⟨_, ACall.pure0 (ok_l_toFunc hv16) _ rfl (fun _ => rfl), ?_⟩
 rintro _ _ ⟨rfl, rfl⟩
 refine ⟨rfl, _, fun _ => [.str v15.fName, sl 2 TParam.cells v15.fParams, sl 2 TParam.cells v15.fUses, sl 1 cS v15.fSlots, .bool v15.fGen, sl 5 TIns.cells v15.fCode], rfl, one_set rfl, ?_⟩
 refine .direct ?_
 refine ⟨rfl, _, rfl, ?_⟩
 refine ⟨rfl, _, rfl, ?_⟩
 obtain ⟨v17, hv18, h⟩ := bind_some h
 refine ⟨_, ACall.pure0 (ok_i_CheckThread hv18) _ rfl (fun _ => rfl), ?_⟩
 rintro _ _ ⟨rfl, rfl⟩
 refine .direct ?_
 refine .direct ?_
 refine splitB.mk (fun hb19 => ?_) (fun hb19 => ?_)
 have hb32 := not_F hb19
 replace h := F_beq hb32 h
 refine .direct ?_
 obtain rfl := Option.some.inj h
 exact ⟨[], .bool false, [], by decide, (show 0 ≤ 0 by decide), .bool_eq rfl, trivial, rfl, rfl⟩
 have hb32 := not_T hb19
 replace h := T_beq hb32 h
 refine .direct ?_
 refine .direct ?_
 refine .float [(0, true), (1, true), (2, false), (3, false), (4, true)] (by kernel_rfl) ?_
 refine ⟨rfl, _, rfl, ?_⟩
 refine ⟨rfl, _, rfl, ?_⟩
 obtain ⟨v20, hv21, h⟩ := bind_some h
 refine ⟨_, ACall.pure0 (ok_l_toFunc hv21) _ rfl (fun _ => rfl), ?_⟩
 rintro _ _ ⟨rfl, rfl⟩
 refine ⟨rfl, ?_⟩
 obtain ⟨v22, hv23, h⟩ := bind_some h
 refine ⟨_, ACall.pure0 (ok_l_eqFunc hv23) _ rfl (fun _ => rfl), ?_⟩
 rintro _ _ ⟨rfl, rfl⟩
 refine splitB.mk (fun hb24 => ?_) (fun hb24 => ?_)
 have hb31 := not_F hb24
 replace h := F_var hb31 h
 refine .direct ?_
 obtain rfl := Option.some.inj h
 exact ⟨[], .bool false, [], by decide, (show 0 ≤ 0 by decide), .bool_eq rfl, trivial, rfl, rfl⟩
 have hb31 := not_T hb24
 replace h := T_var hb31 h
 refine .direct ?_
 refine .direct ?_
 refine .float [(0, true), (1, true), (2, false), (3, false), (4, true)] (by kernel_rfl) ?_
 refine ⟨rfl, _, rfl, ?_⟩
 refine ⟨rfl, _, rfl, ?_⟩
 obtain ⟨v25, hv26, h⟩ := bind_some h
 refine ⟨_, ACall.pure0 (ok_l_toFunc hv26) _ rfl (fun _ => rfl), ?_⟩
 rintro _ _ ⟨rfl, rfl⟩
 refine ⟨rfl, ?_⟩
 obtain ⟨v27, hv28, h⟩ := bind_some h
 refine ⟨_, ACall.pure0 (ok_l_eqFunc hv28) _ rfl (fun _ => rfl), ?_⟩
 rintro _ _ ⟨rfl, rfl⟩
 refine splitB.mk (fun hb29 => ?_) (fun hb29 => ?_)
 have hb30 := not_F hb29
 replace h := F_var hb30 h
 refine .direct ?_
 obtain rfl := Option.some.inj h
 exact ⟨[], .bool false, [], by decide, (show 0 ≤ 0 by decide), .bool_eq rfl, trivial, rfl, rfl⟩
 have hb30 := not_T hb29
 replace h := T_var hb30 h
 refine .direct ?_
 obtain rfl := Option.some.inj h
 exact ⟨[], .bool true, [], by decide, (show 0 ≤ 0 by decide), .bool_eq rfl, trivial, rfl, rfl⟩
end Go.Am
