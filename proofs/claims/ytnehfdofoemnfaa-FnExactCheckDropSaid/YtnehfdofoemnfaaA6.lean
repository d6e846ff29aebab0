/- Models of Go functions, and their walks. (Printed by tools/mg.py.) -/
import Derived.Test.YtnehfdofoemnfaaA5
set_option linter.unusedVariables false
set_option linter.unusedSimpArgs false
set_option maxRecDepth 100000
namespace Go.Am
open Go Go.RowKit Go.Proofs

def m_s_l31Walk_L2 (a0 : List TIns) (a2 : Int) (y5 : Int) (y6 : Int) : Option ((Int) ⊕ (Int × Bool)) :=
 (if y6 ≤ (a0.length : Int) then
 (if y5 = a2 then
 some (.inr (y5, true))
 else
 (if y6 = (a0.length : Int) then
 m_s_l31Walk_L2 a0 a2 y5 (W64 (y6 + 1))
 else
 idx a0 y5 >>= fun x12 =>
 (if x12.fOp = 27 then
 idx a0 y5 >>= fun x15 =>
 m_s_l31Walk_L2 a0 a2 x15.fA (W64 (y6 + 1))
 else
 idx a0 y5 >>= fun x17 =>
 (if x17.fOp = 1 then
 (if (W64 (y5 + 1)) < (a0.length : Int) then
 m_s_l31Walk_L2 a0 a2 (W64 (y5 + 1)) (W64 (y6 + 1))
 else
 some (.inr (y5, false)))
 else
 some (.inr (y5, false))))))
 else
 some (.inl y5))
partial_fixpoint
def m_s_l31Walk (a0 : List TIns) (a1 : Int) (a2 : Int) : Option (Int × Bool) :=
 ((
 m_s_l31Walk_L2 a0 a2 a1 0
 : Option ((Int) ⊕ (Int × Bool))) >>= fun o2 => match o2 with
 | .inr r => some r
 | .inl y1 =>
 some (y1, false)
 )
theorem ok_s_l31Walk {a0 : List TIns} {a1 : Int} {a2 : Int} {r : Int × Bool} (h : m_s_l31Walk a0 a1 a2 = some r) : ACall Try.prog 42 [sl 5 TIns.cells a0, .int .i64 a1, .int .i64 a2] [] (fun res h => res = .tup [.int .i64 r.1, .bool r.2] ∧ h = []) := by
 refine ACall.of_vc tabT_ok mixed Try.func42 rfl (by kernel_rfl) _ _ _ rfl (by kernel_rfl) ?_
 unfold m_s_l31Walk at h
 refine .direct ?_
 refine .direct ?_
 obtain ⟨o2, ho3, hk4⟩ := bind_some h
 replace h := ho3
 refine .cut (fun σ η => ∃ y1, .inl y1 = o2 ∧ σ = [(8, .int .i64 y1)] ∧ η = []) ?_ ?_
 refine .direct ?_
 refine LoopAt.enter [(0, sl 5 TIns.cells a0), (2, .int .i64 a2), (8, .int .i64 a1), (9, .int .i64 0)] [] ⟨[], by decide, (show 0 ≤ 0 by decide), ⟨.slc_eq rfl (fun _ _ => rfl), .int_eq rfl, .int_eq rfl, .int_eq rfl, trivial⟩, trivial⟩ ?_
 refine m_s_l31Walk_L2.partial_correctness a0 a2 (motive := fun y5 y6 o21 => o2 = o21 → LoopAt _ _ [(0, sl 5 TIns.cells a0), (2, .int .i64 a2), (8, .int .i64 y5), (9, .int .i64 y6)] []) ?_ a1 0 o2 h rfl
 intro F8 ih7 y5 y6 o21 h hr22
 subst hr22
 refine LoopAt.round ?_
 refine .direct ?_
 refine .direct ?_
 refine splitB.mk (fun hb9 => ?_) (fun hb9 => ?_)
 replace h := T_dec hb9 h
 refine .direct ?_
 refine .direct ?_
 refine .direct ?_
 refine splitB.mk (fun hb10 => ?_) (fun hb10 => ?_)
 replace h := T_beq hb10 h
 refine .direct ?_
 obtain rfl := Option.some.inj h
 replace h := hk4
 obtain rfl := Option.some.inj h
 exact ⟨[], .tup [.int .i64 y5, .bool true], [], by decide, (show 0 ≤ 0 by decide), .tup_l ⟨.int_eq rfl, .bool_eq rfl, trivial⟩, trivial, rfl, rfl⟩
 replace h := F_beq hb10 h
 refine .direct ?_
 refine splitB.mk (fun hb11 => ?_) (fun hb11 => ?_)
 replace h := T_beq hb11 h
 exact ⟨[(0, sl 5 TIns.cells a0), (2, .int .i64 a2), (8, .int .i64 y5), (9, .int .i64 (W64 (y6 + 1)))], [], ⟨[], by decide, (show 0 ≤ 0 by decide), ⟨.slc_eq rfl (fun _ _ => rfl), .int_eq rfl, .int_eq rfl, .int_eq rfl, trivial⟩, trivial⟩, ih7 _ _ _ h rfl⟩
 replace h := F_beq hb11 h
 refine .direct ?_
 obtain ⟨x12, hx13, h⟩ := bind_some h
 refine ⟨idx_bd hx13, _, (idx_row hx13).trans (TIns.cells_eq x12), ?_⟩
 refine splitB.mk (fun hb14 => ?_) (fun hb14 => ?_)
 replace h := T_beq hb14 h
 obtain ⟨x15, hx16, h⟩ := bind_some h
 refine ⟨idx_bd hx16, _, (idx_row hx16).trans (TIns.cells_eq x15), ?_⟩
 exact ⟨[(0, sl 5 TIns.cells a0), (2, .int .i64 a2), (8, .int .i64 x15.fA), (9, .int .i64 (W64 (y6 + 1)))], [], ⟨[], by decide, (show 0 ≤ 0 by decide), ⟨.slc_eq rfl (fun _ _ => rfl), .int_eq rfl, .int_eq rfl, .int_eq rfl, trivial⟩, trivial⟩, ih7 _ _ _ h rfl⟩
 replace h := F_beq hb14 h
 refine .direct ?_
 obtain ⟨x17, hx18, h⟩ := bind_some h
 refine ⟨idx_bd hx18, _, (idx_row hx18).trans (TIns.cells_eq x17), ?_⟩
 refine splitB.mk (fun hb19 => ?_) (fun hb19 => ?_)
 replace h := T_beq hb19 h
 refine splitB_t ?_
 refine splitB_t ?_
 refine splitB_t ?_
 refine splitB_t ?_
 refine splitB_t ?_
 refine splitB.mk (fun hb20 => ?_) (fun hb20 => ?_)
 replace h := T_dec hb20 h
 exact ⟨[(0, sl 5 TIns.cells a0), (2, .int .i64 a2), (8, .int .i64 (W64 (y5 + 1))), (9, .int .i64 (W64 (y6 + 1)))], [], ⟨[], by decide, (show 0 ≤ 0 by decide), ⟨.slc_eq rfl (fun _ _ => rfl), .int_eq rfl, .int_eq rfl, .int_eq rfl, trivial⟩, trivial⟩, ih7 _ _ _ h rfl⟩
 replace h := F_dec hb20 h
 refine .direct ?_
 obtain rfl := Option.some.inj h
 replace h := hk4
 obtain rfl := Option.some.inj h
 exact ⟨[], .tup [.int .i64 y5, .bool false], [], by decide, (show 0 ≤ 0 by decide), .tup_l ⟨.int_eq rfl, .bool_eq rfl, trivial⟩, trivial, rfl, rfl⟩
 replace h := F_beq hb19 h
 refine splitB_f ?_
 refine splitB_f ?_
 refine splitB_f ?_
 refine splitB_f ?_
 refine splitB_f ?_
 refine splitB_f ?_
 refine .direct ?_
 obtain rfl := Option.some.inj h
 replace h := hk4
 obtain rfl := Option.some.inj h
 exact ⟨[], .tup [.int .i64 y5, .bool false], [], by decide, (show 0 ≤ 0 by decide), .tup_l ⟨.int_eq rfl, .bool_eq rfl, trivial⟩, trivial, rfl, rfl⟩
 replace h := F_dec hb9 h
 exact ⟨[(8, .int .i64 y5)], [], ⟨[], by decide, (show 0 ≤ 0 by decide), ⟨.int_eq rfl, trivial⟩, trivial⟩, y5, Option.some.inj h, rfl, rfl⟩
 rintro _ _ ⟨y1, rfl, rfl, rfl⟩
 replace h := hk4
 refine .direct ?_
 obtain rfl := Option.some.inj h
 exact ⟨[], .tup [.int .i64 y1, .bool false], [], by decide, (show 0 ≤ 0 by decide), .tup_l ⟨.int_eq rfl, .bool_eq rfl, trivial⟩, trivial, rfl, rfl⟩
def m_i_walkFrom_L2 (a0 : List TIns) (y5 : Int) (l6 : List Int) (y7 : Int) : Option (((List Int)) ⊕ (List Int)) :=
 (if y7 < (a0.length : Int) then
 idx a0 y5 >>= fun x11 =>
 (if x11.fOp = 27 then
 idx a0 y5 >>= fun x14 =>
 lapp 8 l6 ([x14.fA] : List Int) >>= fun l16 =>
 m_i_walkFrom_L2 a0 x14.fA l16 (W64 (y7 + 1))
 else
 idx a0 y5 >>= fun x18 =>
 (if x18.fOp = 1 then
 (if (W64 (y5 + 1)) < (a0.length : Int) then
 lapp 8 l6 ([W64 (y5 + 1)] : List Int) >>= fun l22 =>
 m_i_walkFrom_L2 a0 (W64 (y5 + 1)) l22 (W64 (y7 + 1))
 else
 some (.inr l6))
 else
 some (.inr l6)))
 else
 some (.inl l6))
partial_fixpoint
def m_i_walkFrom (a0 : List TIns) (a1 : Int) : Option ((List Int)) :=
 ((
 m_i_walkFrom_L2 a0 a1 ([a1] : List Int) 0
 : Option (((List Int)) ⊕ (List Int))) >>= fun o2 => match o2 with
 | .inr r => some r
 | .inl l1 =>
 some l1
 )
theorem ok_i_walkFrom {a0 : List TIns} {a1 : Int} {r : (List Int)} (h : m_i_walkFrom a0 a1 = some r) : ACall Try.prog 45 [sl 5 TIns.cells a0, .int .i64 a1] [] (fun res h => res = sl 1 cI r ∧ h = []) := by
 refine ACall.of_vc tabT_ok mixed Try.func45 rfl (by kernel_rfl) _ _ _ rfl (by kernel_rfl) ?_
 unfold m_i_walkFrom at h
 refine .direct ?_
 refine .direct ?_
 refine ⟨row cI ([a1] : List Int), row_lit cI ([a1] : List Int) rfl (cll_refl rfl), ?_⟩
 obtain ⟨o2, ho3, hk4⟩ := bind_some h
 replace h := ho3
 refine .cut (fun σ η => ∃ l1, .inl l1 = o2 ∧ σ = [(5, .own 0 0 0 l1.length)] ∧ η = [.row 0 1 l1.length 3 (row cI l1)]) ?_ ?_
 refine .direct ?_
 refine LoopAt.enter [(0, sl 5 TIns.cells a0), (1, .int .i64 a1), (5, .own 0 0 0 ([a1] : List Int).length), (9, .int .i64 (a0.length : Int)), (10, .int .i64 0)] [.row 0 1 ([a1] : List Int).length 3 (row cI ([a1] : List Int))] ⟨[0], by decide, (show 0 ≤ 1 by decide), ⟨.slc_eq rfl (fun _ _ => rfl), .int_eq rfl, .own_eq rfl ⟨_, _, _, _, rfl⟩ ⟨_, _, _, _, rfl, Nat.le_of_eq (Nat.zero_add _)⟩ rfl rfl, .int_eq rfl, .int_eq rfl, trivial⟩, ⟨⟨fun h0 => absurd (show 0 < 0 from h0) (by decide), rfl, .inl rfl, rfl, fz_row cI_pure⟩, trivial⟩⟩ ?_
 refine m_i_walkFrom_L2.partial_correctness a0 (motive := fun y5 l6 y7 o24 => o2 = o24 → LoopAt _ _ [(0, sl 5 TIns.cells a0), (1, .int .i64 y5), (5, .own 0 0 0 l6.length), (9, .int .i64 (a0.length : Int)), (10, .int .i64 y7)] [.row 0 1 l6.length 3 (row cI l6)]) ?_ a1 ([a1] : List Int) 0 o2 h rfl
 intro F9 ih8 y5 l6 y7 o24 h hr25
 subst hr25
 refine LoopAt.round ?_
 refine .direct ?_
 refine .direct ?_
 refine splitB.mk (fun hb10 => ?_) (fun hb10 => ?_)
 replace h := T_dec hb10 h
 refine .direct ?_
 refine .direct ?_
 refine .direct ?_
 obtain ⟨x11, hx12, h⟩ := bind_some h
 refine ⟨idx_bd hx12, _, (idx_row hx12).trans (TIns.cells_eq x11), ?_⟩
 refine splitB.mk (fun hb13 => ?_) (fun hb13 => ?_)
 replace h := T_beq hb13 h
 obtain ⟨x14, hx15, h⟩ := bind_some h
 refine ⟨idx_bd hx15, _, (idx_row hx15).trans (TIns.cells_eq x14), ?_⟩
 refine ⟨row cI ([x14.fA] : List Int), row_lit cI ([x14.fA] : List Int) rfl (cll_refl rfl), ?_⟩
 obtain ⟨l16, hx17, h⟩ := bind_some h
 refine ⟨rfl, rfl, lapp_bd hx17, l16.length, row cI l16, lapp_len hx17, lapp_row hx17 shows_all (src_own shows_all), ?_⟩
 exact ⟨[(0, sl 5 TIns.cells a0), (1, .int .i64 x14.fA), (5, .own 0 0 0 l16.length), (9, .int .i64 (a0.length : Int)), (10, .int .i64 (W64 (y7 + 1)))], [.row 0 1 l16.length 3 (row cI l16)], ⟨[0], by decide, (show 0 ≤ 1 by decide), ⟨.slc_eq rfl (fun _ _ => rfl), .int_eq rfl, .own_eq rfl ⟨_, _, _, _, rfl⟩ ⟨_, _, _, _, rfl, Nat.le_of_eq (Nat.zero_add _)⟩ rfl rfl, .int_eq rfl, .int_eq rfl, trivial⟩, ⟨⟨fun h0 => absurd (show 0 < 0 from h0) (by decide), rfl, .inl rfl, rfl, fz_row cI_pure⟩, trivial⟩⟩, ih8 _ _ _ _ h rfl⟩
 replace h := F_beq hb13 h
 refine .direct ?_
 obtain ⟨x18, hx19, h⟩ := bind_some h
 refine ⟨idx_bd hx19, _, (idx_row hx19).trans (TIns.cells_eq x18), ?_⟩
 refine splitB.mk (fun hb20 => ?_) (fun hb20 => ?_)
 replace h := T_beq hb20 h
 refine splitB_t ?_
 refine splitB_t ?_
 refine splitB_t ?_
 refine splitB_t ?_
 refine splitB_t ?_
 refine splitB.mk (fun hb21 => ?_) (fun hb21 => ?_)
 replace h := T_dec hb21 h
 refine ⟨row cI ([W64 (y5 + 1)] : List Int), row_lit cI ([W64 (y5 + 1)] : List Int) rfl (cll_refl rfl), ?_⟩
 obtain ⟨l22, hx23, h⟩ := bind_some h
 refine ⟨rfl, rfl, lapp_bd hx23, l22.length, row cI l22, lapp_len hx23, lapp_row hx23 shows_all (src_own shows_all), ?_⟩
 exact ⟨[(0, sl 5 TIns.cells a0), (1, .int .i64 (W64 (y5 + 1))), (5, .own 0 0 0 l22.length), (9, .int .i64 (a0.length : Int)), (10, .int .i64 (W64 (y7 + 1)))], [.row 0 1 l22.length 3 (row cI l22)], ⟨[0], by decide, (show 0 ≤ 1 by decide), ⟨.slc_eq rfl (fun _ _ => rfl), .int_eq rfl, .own_eq rfl ⟨_, _, _, _, rfl⟩ ⟨_, _, _, _, rfl, Nat.le_of_eq (Nat.zero_add _)⟩ rfl rfl, .int_eq rfl, .int_eq rfl, trivial⟩, ⟨⟨fun h0 => absurd (show 0 < 0 from h0) (by decide), rfl, .inl rfl, rfl, fz_row cI_pure⟩, trivial⟩⟩, ih8 _ _ _ _ h rfl⟩
 replace h := F_dec hb21 h
 refine .direct ?_
 obtain rfl := Option.some.inj h
 replace h := hk4
 obtain rfl := Option.some.inj h
 exact ⟨[], sl 1 cI l6, [], by decide, (show 0 ≤ 0 by decide), (fz_frz cI_pure (by first | decide | simp) rfl shows_all), trivial, rfl, rfl⟩
 replace h := F_beq hb20 h
 refine splitB_f ?_
 refine splitB_f ?_
 refine splitB_f ?_
 refine splitB_f ?_
 refine splitB_f ?_
 refine splitB_f ?_
 refine .direct ?_
 obtain rfl := Option.some.inj h
 replace h := hk4
 obtain rfl := Option.some.inj h
 exact ⟨[], sl 1 cI l6, [], by decide, (show 0 ≤ 0 by decide), (fz_frz cI_pure (by first | decide | simp) rfl shows_all), trivial, rfl, rfl⟩
 replace h := F_dec hb10 h
 exact ⟨[(5, .own 0 0 0 l6.length)], [.row 0 1 l6.length 3 (row cI l6)], ⟨[0], by decide, (show 0 ≤ 1 by decide), ⟨.own_eq rfl ⟨_, _, _, _, rfl⟩ ⟨_, _, _, _, rfl, Nat.le_of_eq (Nat.zero_add _)⟩ rfl rfl, trivial⟩, ⟨⟨fun h0 => absurd (show 0 < 0 from h0) (by decide), rfl, .inl rfl, rfl, fz_row cI_pure⟩, trivial⟩⟩, l6, Option.some.inj h, rfl, rfl⟩
 rintro _ _ ⟨l1, rfl, rfl, rfl⟩
 replace h := hk4
 refine .direct ?_
 obtain rfl := Option.some.inj h
 exact ⟨[], sl 1 cI l1, [], by decide, (show 0 ≤ 0 by decide), (fz_frz cI_pure (by first | decide | simp) rfl shows_all), trivial, rfl, rfl⟩
def m_i_moved_L4 (a0 : TIns) (a1 : List Int) (y12 : Int) (y13 : Int) : Option (Int) :=
 (if y13 < (a1.length : Int) then
 idx a1 y13 >>= fun x17 =>
 (if x17 < a0.fA then
 m_i_moved_L4 a0 a1 (W64 (y12 + 1)) (W64 (y13 + 1))
 else
 m_i_moved_L4 a0 a1 y12 (W64 (y13 + 1)))
 else
 some y12)
partial_fixpoint
def m_i_moved (a0 : TIns) (a1 : List Int) : Option (TIns) :=
 (
 m_i_HasTarget a0.fOp >>= fun v5 =>
 (if v5 = true then
 (
 m_i_moved_L4 a0 a1 0 0
 : Option (Int)) >>= fun y8 =>
 some y8
 else
 some a0.fA)
 : Option (Int)) >>= fun y1 =>
 some (TIns.mk a0.fOp y1 a0.fB a0.fS a0.fT)
theorem ok_i_moved {a0 : TIns} {a1 : List Int} {r : TIns} (h : m_i_moved a0 a1 = some r) : ACall Try.prog 37 [.agg [.int .i64 a0.fOp, .int .i64 a0.fA, .int .i64 a0.fB, .str a0.fS, .str a0.fT], sl 1 cI a1] [] (fun res h => res = .agg [.int .i64 r.fOp, .int .i64 r.fA, .int .i64 r.fB, .str r.fS, .str r.fT] ∧ h = []) := by
 refine ACall.of_vc tabT_ok mixed Try.func37 rfl (by kernel_rfl) _ _ _ rfl (by kernel_rfl) ?_
 unfold m_i_moved at h
 refine .direct ?_
 obtain ⟨o2, ho3, hk4⟩ := bind_some h
 replace h := ho3
 refine .cut (fun σ η => ∃ y1, y1 = o2 ∧ σ = [(2, .optr 0 0 0 0), (4, .optr 1 0 0 0)] ∧ η = [.row 0 5 1 53 (fun _ => [.int .i64 a0.fOp, .int .i64 y1, .int .i64 a0.fB, .str a0.fS, .str a0.fT]), .row 0 5 1 53 (fun _ => [.int .i64 0, .int .i64 0, .int .i64 0, .str [], .str []])]) ?_ ?_
 refine .direct ?_
 refine ⟨rfl, ?_⟩
 refine ⟨rfl, _, rfl, ?_⟩
 obtain ⟨v5, hv6, h⟩ := bind_some h
 refine ⟨_, ACall.pure0 (ok_i_HasTarget hv6) _ rfl (fun _ => rfl), ?_⟩
 rintro _ _ ⟨rfl, rfl⟩
 refine splitB.mk (fun hb7 => ?_) (fun hb7 => ?_)
 replace h := T_var hb7 h
 refine .direct ?_
 obtain ⟨o9, ho10, hk11⟩ := bind_some h
 replace h := ho10
 refine .cut (fun σ η => ∃ y8, y8 = o9 ∧ σ = [(2, .optr 0 0 0 0), (4, .optr 1 0 0 0), (5, .int .i64 y8)] ∧ η = [.row 0 5 1 53 (fun _ => [.int .i64 a0.fOp, .int .i64 a0.fA, .int .i64 a0.fB, .str a0.fS, .str a0.fT]), .row 0 5 1 53 (fun _ => [.int .i64 0, .int .i64 0, .int .i64 0, .str [], .str []])]) ?_ ?_
 refine .direct ?_
 refine LoopAt.enter [(2, .optr 0 0 0 0), (4, .optr 1 0 0 0), (5, .int .i64 0), (11, sl 1 cI a1), (12, .int .i64 (a1.length : Int)), (13, .int .i64 0)] [.row 0 5 1 53 (fun _ => [.int .i64 a0.fOp, .int .i64 a0.fA, .int .i64 a0.fB, .str a0.fS, .str a0.fT]), .row 0 5 1 53 (fun _ => [.int .i64 0, .int .i64 0, .int .i64 0, .str [], .str []])] ⟨[0, 1], by decide, (show 0 ≤ 2 by decide), ⟨.optr_eq rfl ⟨_, _, _, _, rfl⟩ ⟨_, _, _, _, rfl, Nat.zero_lt_one⟩ rfl rfl, .optr_eq rfl ⟨_, _, _, _, rfl⟩ ⟨_, _, _, _, rfl, Nat.zero_lt_one⟩ rfl rfl, .int_eq rfl, .slc_eq rfl (fun _ _ => rfl), .int_eq rfl, .int_eq rfl, trivial⟩, ⟨⟨fun h0 => absurd (show 0 < 0 from h0) (by decide), rfl, .inl rfl, rfl, fun _ _ => ⟨.int_eq rfl, .int_eq rfl, .int_eq rfl, .str_eq rfl, .str_eq rfl, trivial⟩⟩, ⟨fun h0 => absurd (show 1 < 0 from h0) (by decide), rfl, .inl rfl, rfl, fun _ _ => ⟨.int_eq rfl, .int_eq rfl, .int_eq rfl, .str_eq rfl, .str_eq rfl, trivial⟩⟩, trivial⟩⟩ ?_
 refine m_i_moved_L4.partial_correctness a0 a1 (motive := fun y12 y13 o20 => o9 = o20 → LoopAt _ _ [(2, .optr 0 0 0 0), (4, .optr 1 0 0 0), (5, .int .i64 y12), (11, sl 1 cI a1), (12, .int .i64 (a1.length : Int)), (13, .int .i64 y13)] [.row 0 5 1 53 (fun _ => [.int .i64 a0.fOp, .int .i64 a0.fA, .int .i64 a0.fB, .str a0.fS, .str a0.fT]), .row 0 5 1 53 (fun _ => [.int .i64 0, .int .i64 0, .int .i64 0, .str [], .str []])]) ?_ 0 0 o9 h rfl
 intro F15 ih14 y12 y13 o20 h hr21
 subst hr21
 refine LoopAt.round ?_
 refine .direct ?_
 refine .direct ?_
 refine splitB.mk (fun hb16 => ?_) (fun hb16 => ?_)
 replace h := T_dec hb16 h
 refine .direct ?_
 refine .direct ?_
 obtain ⟨x17, hx18, h⟩ := bind_some h
 refine ⟨idx_bd hx18, _, (idx_row hx18).trans rfl, ?_⟩
 refine .direct ?_
 refine ⟨rfl, ?_⟩
 refine ⟨rfl, _, rfl, ?_⟩
 refine splitB.mk (fun hb19 => ?_) (fun hb19 => ?_)
 replace h := T_dec hb19 h
 exact ⟨[(2, .optr 0 0 0 0), (4, .optr 1 0 0 0), (5, .int .i64 (W64 (y12 + 1))), (11, sl 1 cI a1), (12, .int .i64 (a1.length : Int)), (13, .int .i64 (W64 (y13 + 1)))], [.row 0 5 1 53 (fun _ => [.int .i64 a0.fOp, .int .i64 a0.fA, .int .i64 a0.fB, .str a0.fS, .str a0.fT]), .row 0 5 1 53 (fun _ => [.int .i64 0, .int .i64 0, .int .i64 0, .str [], .str []])], ⟨[0, 1], by decide, (show 0 ≤ 2 by decide), ⟨.optr_eq rfl ⟨_, _, _, _, rfl⟩ ⟨_, _, _, _, rfl, Nat.zero_lt_one⟩ rfl rfl, .optr_eq rfl ⟨_, _, _, _, rfl⟩ ⟨_, _, _, _, rfl, Nat.zero_lt_one⟩ rfl rfl, .int_eq rfl, .slc_eq rfl (fun _ _ => rfl), .int_eq rfl, .int_eq rfl, trivial⟩, ⟨⟨fun h0 => absurd (show 0 < 0 from h0) (by decide), rfl, .inl rfl, rfl, fun _ _ => ⟨.int_eq rfl, .int_eq rfl, .int_eq rfl, .str_eq rfl, .str_eq rfl, trivial⟩⟩, ⟨fun h0 => absurd (show 1 < 0 from h0) (by decide), rfl, .inl rfl, rfl, fun _ _ => ⟨.int_eq rfl, .int_eq rfl, .int_eq rfl, .str_eq rfl, .str_eq rfl, trivial⟩⟩, trivial⟩⟩, ih14 _ _ _ h rfl⟩
 replace h := F_dec hb19 h
 exact ⟨[(2, .optr 0 0 0 0), (4, .optr 1 0 0 0), (5, .int .i64 y12), (11, sl 1 cI a1), (12, .int .i64 (a1.length : Int)), (13, .int .i64 (W64 (y13 + 1)))], [.row 0 5 1 53 (fun _ => [.int .i64 a0.fOp, .int .i64 a0.fA, .int .i64 a0.fB, .str a0.fS, .str a0.fT]), .row 0 5 1 53 (fun _ => [.int .i64 0, .int .i64 0, .int .i64 0, .str [], .str []])], ⟨[0, 1], by decide, (show 0 ≤ 2 by decide), ⟨.optr_eq rfl ⟨_, _, _, _, rfl⟩ ⟨_, _, _, _, rfl, Nat.zero_lt_one⟩ rfl rfl, .optr_eq rfl ⟨_, _, _, _, rfl⟩ ⟨_, _, _, _, rfl, Nat.zero_lt_one⟩ rfl rfl, .int_eq rfl, .slc_eq rfl (fun _ _ => rfl), .int_eq rfl, .int_eq rfl, trivial⟩, ⟨⟨fun h0 => absurd (show 0 < 0 from h0) (by decide), rfl, .inl rfl, rfl, fun _ _ => ⟨.int_eq rfl, .int_eq rfl, .int_eq rfl, .str_eq rfl, .str_eq rfl, trivial⟩⟩, ⟨fun h0 => absurd (show 1 < 0 from h0) (by decide), rfl, .inl rfl, rfl, fun _ _ => ⟨.int_eq rfl, .int_eq rfl, .int_eq rfl, .str_eq rfl, .str_eq rfl, trivial⟩⟩, trivial⟩⟩, ih14 _ _ _ h rfl⟩
 replace h := F_dec hb16 h
 exact ⟨[(2, .optr 0 0 0 0), (4, .optr 1 0 0 0), (5, .int .i64 y12)], [.row 0 5 1 53 (fun _ => [.int .i64 a0.fOp, .int .i64 a0.fA, .int .i64 a0.fB, .str a0.fS, .str a0.fT]), .row 0 5 1 53 (fun _ => [.int .i64 0, .int .i64 0, .int .i64 0, .str [], .str []])], ⟨[0, 1], by decide, (show 0 ≤ 2 by decide), ⟨.optr_eq rfl ⟨_, _, _, _, rfl⟩ ⟨_, _, _, _, rfl, Nat.zero_lt_one⟩ rfl rfl, .optr_eq rfl ⟨_, _, _, _, rfl⟩ ⟨_, _, _, _, rfl, Nat.zero_lt_one⟩ rfl rfl, .int_eq rfl, trivial⟩, ⟨⟨fun h0 => absurd (show 0 < 0 from h0) (by decide), rfl, .inl rfl, rfl, fun _ _ => ⟨.int_eq rfl, .int_eq rfl, .int_eq rfl, .str_eq rfl, .str_eq rfl, trivial⟩⟩, ⟨fun h0 => absurd (show 1 < 0 from h0) (by decide), rfl, .inl rfl, rfl, fun _ _ => ⟨.int_eq rfl, .int_eq rfl, .int_eq rfl, .str_eq rfl, .str_eq rfl, trivial⟩⟩, trivial⟩⟩, y12, Option.some.inj h, rfl, rfl⟩
 rintro _ _ ⟨y8, rfl, rfl, rfl⟩
 replace h := hk11
 refine ⟨rfl, ?_⟩
 refine ⟨rfl, _, fun _ => [.int .i64 a0.fOp, .int .i64 y8, .int .i64 a0.fB, .str a0.fS, .str a0.fT], rfl, one_set rfl, ?_⟩
 exact ⟨[(2, .optr 0 0 0 0), (4, .optr 1 0 0 0)], [.row 0 5 1 53 (fun _ => [.int .i64 a0.fOp, .int .i64 y8, .int .i64 a0.fB, .str a0.fS, .str a0.fT]), .row 0 5 1 53 (fun _ => [.int .i64 0, .int .i64 0, .int .i64 0, .str [], .str []])], ⟨[0, 1], by decide, (show 0 ≤ 2 by decide), ⟨.optr_eq rfl ⟨_, _, _, _, rfl⟩ ⟨_, _, _, _, rfl, Nat.zero_lt_one⟩ rfl rfl, .optr_eq rfl ⟨_, _, _, _, rfl⟩ ⟨_, _, _, _, rfl, Nat.zero_lt_one⟩ rfl rfl, trivial⟩, ⟨⟨fun h0 => absurd (show 0 < 0 from h0) (by decide), rfl, .inl rfl, rfl, fun _ _ => ⟨.int_eq rfl, .int_eq rfl, .int_eq rfl, .str_eq rfl, .str_eq rfl, trivial⟩⟩, ⟨fun h0 => absurd (show 1 < 0 from h0) (by decide), rfl, .inl rfl, rfl, fun _ _ => ⟨.int_eq rfl, .int_eq rfl, .int_eq rfl, .str_eq rfl, .str_eq rfl, trivial⟩⟩, trivial⟩⟩, y8, Option.some.inj h, rfl, rfl⟩
 replace h := F_var hb7 h
 exact ⟨[(2, .optr 0 0 0 0), (4, .optr 1 0 0 0)], [.row 0 5 1 53 (fun _ => [.int .i64 a0.fOp, .int .i64 a0.fA, .int .i64 a0.fB, .str a0.fS, .str a0.fT]), .row 0 5 1 53 (fun _ => [.int .i64 0, .int .i64 0, .int .i64 0, .str [], .str []])], ⟨[0, 1], by decide, (show 0 ≤ 2 by decide), ⟨.optr_eq rfl ⟨_, _, _, _, rfl⟩ ⟨_, _, _, _, rfl, Nat.zero_lt_one⟩ rfl rfl, .optr_eq rfl ⟨_, _, _, _, rfl⟩ ⟨_, _, _, _, rfl, Nat.zero_lt_one⟩ rfl rfl, trivial⟩, ⟨⟨fun h0 => absurd (show 0 < 0 from h0) (by decide), rfl, .inl rfl, rfl, fun _ _ => ⟨.int_eq rfl, .int_eq rfl, .int_eq rfl, .str_eq rfl, .str_eq rfl, trivial⟩⟩, ⟨fun h0 => absurd (show 1 < 0 from h0) (by decide), rfl, .inl rfl, rfl, fun _ _ => ⟨.int_eq rfl, .int_eq rfl, .int_eq rfl, .str_eq rfl, .str_eq rfl, trivial⟩⟩, trivial⟩⟩, a0.fA, Option.some.inj h, rfl, rfl⟩
 rintro _ _ ⟨y1, rfl, rfl, rfl⟩
 replace h := hk4
 refine .direct ?_
 refine ⟨rfl, _, rfl, ?_⟩
 refine ⟨rfl, _, fun _ => [.int .i64 a0.fOp, .int .i64 y1, .int .i64 a0.fB, .str a0.fS, .str a0.fT], rfl, one_set rfl, ?_⟩
 obtain rfl := Option.some.inj h
 refine ⟨rfl, _, rfl, ?_⟩
 exact ⟨[], .agg [.int .i64 ((TIns.mk a0.fOp y1 a0.fB a0.fS a0.fT).fOp), .int .i64 ((TIns.mk a0.fOp y1 a0.fB a0.fS a0.fT).fA), .int .i64 ((TIns.mk a0.fOp y1 a0.fB a0.fS a0.fT).fB), .str ((TIns.mk a0.fOp y1 a0.fB a0.fS a0.fT).fS), .str ((TIns.mk a0.fOp y1 a0.fB a0.fS a0.fT).fT)], [], by decide, (show 0 ≤ 0 by decide), .agg_l ⟨.int_eq rfl, .int_eq rfl, .int_eq rfl, .str_eq rfl, .str_eq rfl, trivial⟩, trivial, rfl, rfl⟩
def m_i_CheckDrop_L2 (a0 : TFunc) (a1 : TFunc) (a2 : List Int) (l15 : List (Int × Bool)) (y16 : Int) : Option (((List (Int × Bool))) ⊕ Bool) :=
 (if y16 < (a2.length : Int) then
 idx a2 y16 >>= fun x20 =>
 m_i_InRange x20 0 (W64 ((a0.fCode.length : Int) - 1)) >>= fun v22 =>
 (if v22 = true then
 (if y16 > 0 then
 idx a2 (W64 (y16 - 1)) >>= fun x26 =>
 (if x26 ≥ x20 then
 some (.inr false)
 else
 idx a1.fCode y16 >>= fun x29 =>
 idx a0.fCode x20 >>= fun x31 =>
 m_i_moved x31 a2 >>= fun v33 =>
 (if x29 = v33 then
 m_i_CheckDrop_L2 a0 a1 a2 (mput l15 x20 true) (W64 (y16 + 1))
 else
 some (.inr false)))
 else
 idx a1.fCode y16 >>= fun x37 =>
 idx a0.fCode x20 >>= fun x39 =>
 m_i_moved x39 a2 >>= fun v41 =>
 (if x37 = v41 then
 m_i_CheckDrop_L2 a0 a1 a2 (mput l15 x20 true) (W64 (y16 + 1))
 else
 some (.inr false)))
 else
 some (.inr false))
 else
 some (.inl l15))
partial_fixpoint
def m_i_CheckDrop_L4 (a0 : TFunc) (l11 : List (Int × Bool)) (v48 : List Int) (y54 : Int) : Option ((Unit) ⊕ Bool) :=
 (if y54 < (a0.fCode.length : Int) then
 idx a0.fCode y54 >>= fun x58 =>
 (if (mgd l11 y54 false) = true then
 m_i_CheckDrop_L4 a0 l11 v48 (W64 (y54 + 1))
 else
 idx v48 y54 >>= fun x61 =>
 (if x61 ≥ 0 then
 (if x58.fOp = 1 then
 m_i_CheckDrop_L4 a0 l11 v48 (W64 (y54 + 1))
 else
 some (.inr false))
 else
 m_i_CheckDrop_L4 a0 l11 v48 (W64 (y54 + 1))))
 else
 some (.inl ()))
partial_fixpoint
def m_i_CheckDrop (a0 : TFunc) (a1 : TFunc) (a2 : List Int) : Option (Bool) :=
 m_i_IsFunc a0 >>= fun v1 =>
 (if v1 = true then
 m_i_IsFunc a1 >>= fun v4 =>
 (if v4 = true then
 m_i_agree a0 a1 >>= fun v7 =>
 (if v7 = true then
 (if (a2.length : Int) = (a1.fCode.length : Int) then
 ((
 m_i_CheckDrop_L2 a0 a1 a2 ([] : List (Int × Bool)) 0
 : Option (((List (Int × Bool))) ⊕ Bool)) >>= fun o12 => match o12 with
 | .inr r => some r
 | .inl l11 =>
 m_i_HeightsOf a0 >>= fun (v48, v49) =>
 ((
 m_i_CheckDrop_L4 a0 l11 v48 0
 : Option ((Unit) ⊕ Bool)) >>= fun o51 => match o51 with
 | .inr r => some r
 | .inl _ =>
 some true
 )
 )
 else
 some false)
 else
 some false)
 else
 some false)
 else
 some false)
theorem ok_i_CheckDrop {a0 : TFunc} {a1 : TFunc} {a2 : List Int} {r : Bool} (h : m_i_CheckDrop a0 a1 a2 = some r) : ACall Try.prog 11 [.agg [.str a0.fName, sl 2 TParam.cells a0.fParams, sl 2 TParam.cells a0.fUses, sl 1 cS a0.fSlots, .bool a0.fGen, sl 5 TIns.cells a0.fCode], .agg [.str a1.fName, sl 2 TParam.cells a1.fParams, sl 2 TParam.cells a1.fUses, sl 1 cS a1.fSlots, .bool a1.fGen, sl 5 TIns.cells a1.fCode], sl 1 cI a2] [] (fun res h => res = .bool r ∧ h = []) := by
 refine ACall.of_vc tabT_ok mixed Try.func11 rfl (by kernel_rfl) _ _ _ rfl (by kernel_rfl) ?_
 unfold m_i_CheckDrop at h
 refine .direct ?_
 refine .direct ?_
 refine .direct ?_
 refine ⟨rfl, _, rfl, ?_⟩
 obtain ⟨v1, hv2, h⟩ := bind_some h
 refine ⟨_, ACall.pure0 (ok_i_IsFunc hv2) _ rfl (fun _ => rfl), ?_⟩
 rintro _ _ ⟨rfl, rfl⟩
 refine splitB.mk (fun hb3 => ?_) (fun hb3 => ?_)
 have hb70 := not_F hb3
 replace h := F_var hb70 h
 refine splitB_t ?_
 refine splitB_t ?_
 refine splitB_t ?_
 refine splitB_t ?_
 refine splitB_t ?_
 refine splitB_t ?_
 refine splitB_t ?_
 refine splitB_t ?_
 refine splitB_t ?_
 refine splitB_t ?_
 refine splitB_t ?_
 refine splitB_t ?_
 refine splitB_t ?_
 refine splitB_t ?_
 refine splitB_t ?_
 refine splitB_t ?_
 refine .direct ?_
 obtain rfl := Option.some.inj h
 exact ⟨[], .bool false, [], by decide, (show 0 ≤ 0 by decide), .bool_eq rfl, trivial, rfl, rfl⟩
 have hb70 := not_T hb3
 replace h := T_var hb70 h
 refine ⟨rfl, _, rfl, ?_⟩
 refine splitB_f ?_
 obtain ⟨v4, hv5, h⟩ := bind_some h
 refine ⟨_, ACall.pure0 (ok_i_IsFunc hv5) _ rfl (fun _ => rfl), ?_⟩
 rintro _ _ ⟨rfl, rfl⟩
 refine splitB_f ?_
 refine splitB_f ?_
 refine splitB.mk (fun hb6 => ?_) (fun hb6 => ?_)
 have hb69 := not_F hb6
 replace h := F_var hb69 h
 refine splitB_t ?_
 refine splitB_t ?_
 refine splitB_t ?_
 refine splitB_t ?_
 refine splitB_t ?_
 refine splitB_t ?_
 refine splitB_t ?_
 refine splitB_t ?_
 refine splitB_t ?_
 refine splitB_t ?_
 refine splitB_t ?_
 refine splitB_t ?_
 refine .direct ?_
 obtain rfl := Option.some.inj h
 exact ⟨[], .bool false, [], by decide, (show 0 ≤ 0 by decide), .bool_eq rfl, trivial, rfl, rfl⟩
 have hb69 := not_T hb6
 replace h := T_var hb69 h
 refine ⟨rfl, _, rfl, ?_⟩
 refine splitB_f ?_
 refine ⟨rfl, _, rfl, ?_⟩
 refine splitB_f ?_
 obtain ⟨v7, hv8, h⟩ := bind_some h
 refine ⟨_, ACall.pure0 (ok_i_agree hv8) _ rfl (fun _ => rfl), ?_⟩
 rintro _ _ ⟨rfl, rfl⟩
 refine splitB_f ?_
 refine splitB_f ?_
 refine splitB.mk (fun hb9 => ?_) (fun hb9 => ?_)
 have hb68 := not_F hb9
 replace h := F_var hb68 h
 refine splitB_t ?_
 refine splitB_t ?_
 refine splitB_t ?_
 refine splitB_t ?_
 refine splitB_t ?_
 refine splitB_t ?_
 refine splitB_t ?_
 refine .direct ?_
 obtain rfl := Option.some.inj h
 exact ⟨[], .bool false, [], by decide, (show 0 ≤ 0 by decide), .bool_eq rfl, trivial, rfl, rfl⟩
 have hb68 := not_T hb9
 replace h := T_var hb68 h
 refine splitB_f ?_
 refine splitB_f ?_
 refine ⟨rfl, ?_⟩
 refine splitB_f ?_
 refine ⟨rfl, _, rfl, ?_⟩
 refine splitB_f ?_
 refine splitB_f ?_
 refine splitB_f ?_
 refine splitB.mk (fun hb10 => ?_) (fun hb10 => ?_)
 replace h := T_bne hb10 h
 refine .direct ?_
 obtain rfl := Option.some.inj h
 exact ⟨[], .bool false, [], by decide, (show 0 ≤ 0 by decide), .bool_eq rfl, trivial, rfl, rfl⟩
 replace h := F_bne hb10 h
 refine .direct ?_
 refine ⟨row (mc (PV.int .i64) (PV.bool)) ([] : List (Int × Bool)), ?_⟩
 obtain ⟨o12, ho13, hk14⟩ := bind_some h
 replace h := ho13
 refine .cut (fun σ η => ∃ l11, .inl l11 = o12 ∧ σ = [(3, .optr 0 0 0 0), (7, .omp 1)] ∧ η = [.row 0 6 1 33 (fun _ => [.str a0.fName, sl 2 TParam.cells a0.fParams, sl 2 TParam.cells a0.fUses, sl 1 cS a0.fSlots, .bool a0.fGen, sl 5 TIns.cells a0.fCode]), .row 0 2 l11.length 58 (row (mc (PV.int .i64) (PV.bool)) l11)]) ?_ ?_
 refine .direct ?_
 refine LoopAt.enter [(2, sl 1 cI a2), (3, .optr 0 0 0 0), (4, .optr 1 0 0 0), (7, .omp 2), (37, sl 1 cI a2), (38, .int .i64 (a2.length : Int)), (39, .int .i64 0)] [.row 0 6 1 33 (fun _ => [.str a0.fName, sl 2 TParam.cells a0.fParams, sl 2 TParam.cells a0.fUses, sl 1 cS a0.fSlots, .bool a0.fGen, sl 5 TIns.cells a0.fCode]), .row 0 6 1 33 (fun _ => [.str a1.fName, sl 2 TParam.cells a1.fParams, sl 2 TParam.cells a1.fUses, sl 1 cS a1.fSlots, .bool a1.fGen, sl 5 TIns.cells a1.fCode]), .row 0 2 ([] : List (Int × Bool)).length 58 (row (mc (PV.int .i64) (PV.bool)) ([] : List (Int × Bool)))] ⟨[0, 1, 2], by decide, (show 0 ≤ 3 by decide), ⟨.slc_eq rfl (fun _ _ => rfl), .optr_eq rfl ⟨_, _, _, _, rfl⟩ ⟨_, _, _, _, rfl, Nat.zero_lt_one⟩ rfl rfl, .optr_eq rfl ⟨_, _, _, _, rfl⟩ ⟨_, _, _, _, rfl, Nat.zero_lt_one⟩ rfl rfl, .omp_eq rfl ⟨_, _, _, _, _, rfl⟩ ⟨_, _, _, _, _, rfl⟩, .slc_eq rfl (fun _ _ => rfl), .int_eq rfl, .int_eq rfl, trivial⟩, ⟨⟨fun h0 => absurd (show 0 < 0 from h0) (by decide), rfl, .inl rfl, rfl, fun _ _ => ⟨.str_eq rfl, .slc_eq rfl (fun _ _ => rfl), .slc_eq rfl (fun _ _ => rfl), .slc_eq rfl (fun _ _ => rfl), .bool_eq rfl, .slc_eq rfl (fun _ _ => rfl), trivial⟩⟩, ⟨fun h0 => absurd (show 1 < 0 from h0) (by decide), rfl, .inl rfl, rfl, fun _ _ => ⟨.str_eq rfl, .slc_eq rfl (fun _ _ => rfl), .slc_eq rfl (fun _ _ => rfl), .slc_eq rfl (fun _ _ => rfl), .bool_eq rfl, .slc_eq rfl (fun _ _ => rfl), trivial⟩⟩, ⟨fun h0 => absurd (show 2 < 0 from h0) (by decide), rfl, .inl rfl, rfl, fz_mrow (fun _ => rfl) (fun _ => rfl)⟩, trivial⟩⟩ ?_
 refine m_i_CheckDrop_L2.partial_correctness a0 a1 a2 (motive := fun l15 y16 o46 => o12 = o46 → LoopAt _ _ [(2, sl 1 cI a2), (3, .optr 0 0 0 0), (4, .optr 1 0 0 0), (7, .omp 2), (37, sl 1 cI a2), (38, .int .i64 (a2.length : Int)), (39, .int .i64 y16)] [.row 0 6 1 33 (fun _ => [.str a0.fName, sl 2 TParam.cells a0.fParams, sl 2 TParam.cells a0.fUses, sl 1 cS a0.fSlots, .bool a0.fGen, sl 5 TIns.cells a0.fCode]), .row 0 6 1 33 (fun _ => [.str a1.fName, sl 2 TParam.cells a1.fParams, sl 2 TParam.cells a1.fUses, sl 1 cS a1.fSlots, .bool a1.fGen, sl 5 TIns.cells a1.fCode]), .row 0 2 l15.length 58 (row (mc (PV.int .i64) (PV.bool)) l15)]) ?_ ([] : List (Int × Bool)) 0 o12 h rfl
 intro F18 ih17 l15 y16 o46 h hr47
 subst hr47
 refine LoopAt.round ?_
 refine .direct ?_
 refine .direct ?_
 refine splitB.mk (fun hb19 => ?_) (fun hb19 => ?_)
 replace h := T_dec hb19 h
 refine .direct ?_
 refine .direct ?_
 obtain ⟨x20, hx21, h⟩ := bind_some h
 refine ⟨idx_bd hx21, _, (idx_row hx21).trans rfl, ?_⟩
 refine .direct ?_
 refine .direct ?_
 refine .float [(0, true), (1, true), (2, true), (3, true), (4, true), (5, false), (6, true), (7, true), (8, true), (9, true), (10, true), (11, true), (12, true), (13, true), (14, true), (15, true), (16, true), (17, true), (18, true), (19, true), (20, true), (21, true), (22, true), (23, true), (24, true), (25, true), (26, true), (27, true), (28, true), (29, true), (30, true), (31, true), (32, false), (33, true), (34, true)] (by kernel_rfl) ?_
 refine ⟨rfl, ?_⟩
 refine ⟨rfl, _, rfl, ?_⟩
 obtain ⟨v22, hv23, h⟩ := bind_some h
 refine ⟨_, ACall.pure0 (ok_i_InRange hv23) _ rfl (fun _ => rfl), ?_⟩
 rintro _ _ ⟨rfl, rfl⟩
 refine splitB.mk (fun hb24 => ?_) (fun hb24 => ?_)
 have hb45 := not_F hb24
 replace h := F_var hb45 h
 refine splitB_t ?_
 refine splitB_t ?_
 refine splitB_t ?_
 refine splitB_t ?_
 refine splitB_t ?_
 refine splitB_t ?_
 refine splitB_t ?_
 refine splitB_t ?_
 refine splitB_t ?_
 refine splitB_t ?_
 refine splitB_t ?_
 refine splitB_t ?_
 refine splitB_t ?_
 refine splitB_t ?_
 refine splitB_t ?_
 refine splitB_t ?_
 refine ⟨rfl, ?_⟩
 refine splitB_t ?_
 refine splitB_t ?_
 refine splitB_t ?_
 refine .direct ?_
 obtain rfl := Option.some.inj h
 replace h := hk14
 obtain rfl := Option.some.inj h
 exact ⟨[], .bool false, [], by decide, (show 0 ≤ 0 by decide), .bool_eq rfl, trivial, rfl, rfl⟩
 have hb45 := not_T hb24
 replace h := T_var hb45 h
 refine splitB_f ?_
 refine splitB_f ?_
 refine splitB.mk (fun hb25 => ?_) (fun hb25 => ?_)
 replace h := T_dec hb25 h
 refine splitB_t ?_
 refine splitB_t ?_
 refine splitB_t ?_
 obtain ⟨x26, hx27, h⟩ := bind_some h
 refine ⟨idx_bd hx27, _, (idx_row hx27).trans rfl, ?_⟩
 refine splitB_t ?_
 refine splitB_t ?_
 refine splitB_t ?_
 refine splitB_f ?_
 refine splitB_t ?_
 refine splitB_f ?_
 refine splitB.mk (fun hb28 => ?_) (fun hb28 => ?_)
 replace h := T_dec hb28 h
 refine splitB_t ?_
 refine splitB_t ?_
 refine splitB_t ?_
 refine splitB_t ?_
 refine splitB_t ?_
 refine splitB_t ?_
 refine splitB_t ?_
 refine splitB_t ?_
 refine splitB_t ?_
 refine splitB_t ?_
 refine splitB_t ?_
 refine ⟨rfl, ?_⟩
 refine splitB_t ?_
 refine splitB_t ?_
 refine splitB_t ?_
 refine .direct ?_
 obtain rfl := Option.some.inj h
 replace h := hk14
 obtain rfl := Option.some.inj h
 exact ⟨[], .bool false, [], by decide, (show 0 ≤ 0 by decide), .bool_eq rfl, trivial, rfl, rfl⟩
 replace h := F_dec hb28 h
 refine ⟨rfl, ?_⟩
 refine splitB_f ?_
 refine ⟨rfl, _, rfl, ?_⟩
 refine splitB_f ?_
 refine splitB_f ?_
 obtain ⟨x29, hx30, h⟩ := bind_some h
 refine ⟨idx_bd hx30, _, (idx_row hx30).trans (TIns.cells_eq x29), ?_⟩
 refine splitB_f ?_
 refine splitB_f ?_
 refine ⟨rfl, ?_⟩
 refine splitB_f ?_
 refine ⟨rfl, _, rfl, ?_⟩
 refine splitB_f ?_
 refine splitB_f ?_
 obtain ⟨x31, hx32, h⟩ := bind_some h
 refine ⟨idx_bd hx32, _, (idx_row hx32).trans (TIns.cells_eq x31), ?_⟩
 refine splitB_f ?_
 refine splitB_f ?_
 refine splitB_f ?_
 obtain ⟨v33, hv34, h⟩ := bind_some h
 refine ⟨_, ACall.pure0 (ok_i_moved hv34) _ rfl (fun _ => rfl), ?_⟩
 rintro _ _ ⟨rfl, rfl⟩
 refine ⟨rfl, ?_⟩
 refine ⟨rfl, ?_⟩
 refine splitB_f ?_
 refine ⟨_, TIns.eq_cells x29 v33, ?_⟩
 refine splitB_f ?_
 refine splitB.mk (fun hb35 => ?_) (fun hb35 => ?_)
 have hb36 := not_F hb35
 replace h := F_dec hb36 h
 refine .direct ?_
 obtain rfl := Option.some.inj h
 replace h := hk14
 obtain rfl := Option.some.inj h
 exact ⟨[], .bool false, [], by decide, (show 0 ≤ 0 by decide), .bool_eq rfl, trivial, rfl, rfl⟩
 have hb36 := not_T hb35
 replace h := T_dec hb36 h
 refine ⟨(mput l15 x20 true).length, row (mc (PV.int .i64) (PV.bool)) (mput l15 x20 true), mupd_of (ti := tabT.get 3) (c := PV.int .i64) (d := PV.bool) (key_int .i64) l15 x20 true, ?_⟩
 exact ⟨[(2, sl 1 cI a2), (3, .optr 0 0 0 0), (4, .optr 1 0 0 0), (7, .omp 2), (37, sl 1 cI a2), (38, .int .i64 (a2.length : Int)), (39, .int .i64 (W64 (y16 + 1)))], [.row 0 6 1 33 (fun _ => [.str a0.fName, sl 2 TParam.cells a0.fParams, sl 2 TParam.cells a0.fUses, sl 1 cS a0.fSlots, .bool a0.fGen, sl 5 TIns.cells a0.fCode]), .row 0 6 1 33 (fun _ => [.str a1.fName, sl 2 TParam.cells a1.fParams, sl 2 TParam.cells a1.fUses, sl 1 cS a1.fSlots, .bool a1.fGen, sl 5 TIns.cells a1.fCode]), .row 0 2 (mput l15 x20 true).length 58 (row (mc (PV.int .i64) (PV.bool)) (mput l15 x20 true))], ⟨[0, 1, 2], by decide, (show 0 ≤ 3 by decide), ⟨.slc_eq rfl (fun _ _ => rfl), .optr_eq rfl ⟨_, _, _, _, rfl⟩ ⟨_, _, _, _, rfl, Nat.zero_lt_one⟩ rfl rfl, .optr_eq rfl ⟨_, _, _, _, rfl⟩ ⟨_, _, _, _, rfl, Nat.zero_lt_one⟩ rfl rfl, .omp_eq rfl ⟨_, _, _, _, _, rfl⟩ ⟨_, _, _, _, _, rfl⟩, .slc_eq rfl (fun _ _ => rfl), .int_eq rfl, .int_eq rfl, trivial⟩, ⟨⟨fun h0 => absurd (show 0 < 0 from h0) (by decide), rfl, .inl rfl, rfl, fun _ _ => ⟨.str_eq rfl, .slc_eq rfl (fun _ _ => rfl), .slc_eq rfl (fun _ _ => rfl), .slc_eq rfl (fun _ _ => rfl), .bool_eq rfl, .slc_eq rfl (fun _ _ => rfl), trivial⟩⟩, ⟨fun h0 => absurd (show 1 < 0 from h0) (by decide), rfl, .inl rfl, rfl, fun _ _ => ⟨.str_eq rfl, .slc_eq rfl (fun _ _ => rfl), .slc_eq rfl (fun _ _ => rfl), .slc_eq rfl (fun _ _ => rfl), .bool_eq rfl, .slc_eq rfl (fun _ _ => rfl), trivial⟩⟩, ⟨fun h0 => absurd (show 2 < 0 from h0) (by decide), rfl, .inl rfl, rfl, fz_mrow (fun _ => rfl) (fun _ => rfl)⟩, trivial⟩⟩, ih17 _ _ _ h rfl⟩
 replace h := F_dec hb25 h
 refine splitB_f ?_
 refine splitB_f ?_
 refine splitB_f ?_
 refine splitB_f ?_
 refine splitB_f ?_
 refine splitB_f ?_
 refine splitB_f ?_
 refine splitB_f ?_
 refine splitB_f ?_
 refine splitB_f ?_
 refine ⟨rfl, ?_⟩
 refine splitB_f ?_
 refine ⟨rfl, _, rfl, ?_⟩
 refine splitB_f ?_
 refine splitB_f ?_
 obtain ⟨x37, hx38, h⟩ := bind_some h
 refine ⟨idx_bd hx38, _, (idx_row hx38).trans (TIns.cells_eq x37), ?_⟩
 refine splitB_f ?_
 refine splitB_f ?_
 refine ⟨rfl, ?_⟩
 refine splitB_f ?_
 refine ⟨rfl, _, rfl, ?_⟩
 refine splitB_f ?_
 refine splitB_f ?_
 obtain ⟨x39, hx40, h⟩ := bind_some h
 refine ⟨idx_bd hx40, _, (idx_row hx40).trans (TIns.cells_eq x39), ?_⟩
 refine splitB_f ?_
 refine splitB_f ?_
 refine splitB_f ?_
 obtain ⟨v41, hv42, h⟩ := bind_some h
 refine ⟨_, ACall.pure0 (ok_i_moved hv42) _ rfl (fun _ => rfl), ?_⟩
 rintro _ _ ⟨rfl, rfl⟩
 refine ⟨rfl, ?_⟩
 refine ⟨rfl, ?_⟩
 refine splitB_f ?_
 refine ⟨_, TIns.eq_cells x37 v41, ?_⟩
 refine splitB_f ?_
 refine splitB.mk (fun hb43 => ?_) (fun hb43 => ?_)
 have hb44 := not_F hb43
 replace h := F_dec hb44 h
 refine .direct ?_
 obtain rfl := Option.some.inj h
 replace h := hk14
 obtain rfl := Option.some.inj h
 exact ⟨[], .bool false, [], by decide, (show 0 ≤ 0 by decide), .bool_eq rfl, trivial, rfl, rfl⟩
 have hb44 := not_T hb43
 replace h := T_dec hb44 h
 refine ⟨(mput l15 x20 true).length, row (mc (PV.int .i64) (PV.bool)) (mput l15 x20 true), mupd_of (ti := tabT.get 3) (c := PV.int .i64) (d := PV.bool) (key_int .i64) l15 x20 true, ?_⟩
 exact ⟨[(2, sl 1 cI a2), (3, .optr 0 0 0 0), (4, .optr 1 0 0 0), (7, .omp 2), (37, sl 1 cI a2), (38, .int .i64 (a2.length : Int)), (39, .int .i64 (W64 (y16 + 1)))], [.row 0 6 1 33 (fun _ => [.str a0.fName, sl 2 TParam.cells a0.fParams, sl 2 TParam.cells a0.fUses, sl 1 cS a0.fSlots, .bool a0.fGen, sl 5 TIns.cells a0.fCode]), .row 0 6 1 33 (fun _ => [.str a1.fName, sl 2 TParam.cells a1.fParams, sl 2 TParam.cells a1.fUses, sl 1 cS a1.fSlots, .bool a1.fGen, sl 5 TIns.cells a1.fCode]), .row 0 2 (mput l15 x20 true).length 58 (row (mc (PV.int .i64) (PV.bool)) (mput l15 x20 true))], ⟨[0, 1, 2], by decide, (show 0 ≤ 3 by decide), ⟨.slc_eq rfl (fun _ _ => rfl), .optr_eq rfl ⟨_, _, _, _, rfl⟩ ⟨_, _, _, _, rfl, Nat.zero_lt_one⟩ rfl rfl, .optr_eq rfl ⟨_, _, _, _, rfl⟩ ⟨_, _, _, _, rfl, Nat.zero_lt_one⟩ rfl rfl, .omp_eq rfl ⟨_, _, _, _, _, rfl⟩ ⟨_, _, _, _, _, rfl⟩, .slc_eq rfl (fun _ _ => rfl), .int_eq rfl, .int_eq rfl, trivial⟩, ⟨⟨fun h0 => absurd (show 0 < 0 from h0) (by decide), rfl, .inl rfl, rfl, fun _ _ => ⟨.str_eq rfl, .slc_eq rfl (fun _ _ => rfl), .slc_eq rfl (fun _ _ => rfl), .slc_eq rfl (fun _ _ => rfl), .bool_eq rfl, .slc_eq rfl (fun _ _ => rfl), trivial⟩⟩, ⟨fun h0 => absurd (show 1 < 0 from h0) (by decide), rfl, .inl rfl, rfl, fun _ _ => ⟨.str_eq rfl, .slc_eq rfl (fun _ _ => rfl), .slc_eq rfl (fun _ _ => rfl), .slc_eq rfl (fun _ _ => rfl), .bool_eq rfl, .slc_eq rfl (fun _ _ => rfl), trivial⟩⟩, ⟨fun h0 => absurd (show 2 < 0 from h0) (by decide), rfl, .inl rfl, rfl, fz_mrow (fun _ => rfl) (fun _ => rfl)⟩, trivial⟩⟩, ih17 _ _ _ h rfl⟩
 replace h := F_dec hb19 h
 exact ⟨[(3, .optr 0 0 0 0), (7, .omp 1)], [.row 0 6 1 33 (fun _ => [.str a0.fName, sl 2 TParam.cells a0.fParams, sl 2 TParam.cells a0.fUses, sl 1 cS a0.fSlots, .bool a0.fGen, sl 5 TIns.cells a0.fCode]), .row 0 2 l15.length 58 (row (mc (PV.int .i64) (PV.bool)) l15)], ⟨[0, 2], by decide, (show 0 ≤ 2 by decide), ⟨.optr_eq rfl ⟨_, _, _, _, rfl⟩ ⟨_, _, _, _, rfl, Nat.zero_lt_one⟩ rfl rfl, .omp_eq rfl ⟨_, _, _, _, _, rfl⟩ ⟨_, _, _, _, _, rfl⟩, trivial⟩, ⟨⟨fun h0 => absurd (show 0 < 0 from h0) (by decide), rfl, .inl rfl, rfl, fun _ _ => ⟨.str_eq rfl, .slc_eq rfl (fun _ _ => rfl), .slc_eq rfl (fun _ _ => rfl), .slc_eq rfl (fun _ _ => rfl), .bool_eq rfl, .slc_eq rfl (fun _ _ => rfl), trivial⟩⟩, ⟨fun h0 => absurd (show 1 < 0 from h0) (by decide), rfl, .inl rfl, rfl, fz_mrow (fun _ => rfl) (fun _ => rfl)⟩, trivial⟩⟩, l15, Option.some.inj h, rfl, rfl⟩
 rintro _ _ ⟨l11, rfl, rfl, rfl⟩
 replace h := hk14
 refine .direct ?_
 refine ⟨rfl, _, rfl, ?_⟩
 obtain ⟨⟨v48, v49⟩, hv50, h⟩ := bind_some h
 refine ⟨_, ACall.pure0 (ok_i_HeightsOf hv50) _ rfl (fun _ => rfl), ?_⟩
 rintro _ _ ⟨rfl, rfl⟩
 obtain ⟨o51, ho52, hk53⟩ := bind_some h
 replace h := ho52
 refine .cut (fun σ η => .inl () = o51 ∧ σ = [] ∧ η = []) ?_ ?_
 refine .direct ?_
 refine ⟨rfl, ?_⟩
 refine ⟨rfl, _, rfl, ?_⟩
 refine LoopAt.enter [(7, .omp 0), (10, sl 1 cI v48), (88, sl 5 TIns.cells a0.fCode), (89, .int .i64 (a0.fCode.length : Int)), (90, .int .i64 0)] [.row 0 2 l11.length 58 (row (mc (PV.int .i64) (PV.bool)) l11)] ⟨[1], by decide, (show 0 ≤ 1 by decide), ⟨.omp_eq rfl ⟨_, _, _, _, _, rfl⟩ ⟨_, _, _, _, _, rfl⟩, .slc_eq rfl (fun _ _ => rfl), .slc_eq rfl (fun _ _ => rfl), .int_eq rfl, .int_eq rfl, trivial⟩, ⟨⟨fun h0 => absurd (show 0 < 0 from h0) (by decide), rfl, .inl rfl, rfl, fz_mrow (fun _ => rfl) (fun _ => rfl)⟩, trivial⟩⟩ ?_
 refine m_i_CheckDrop_L4.partial_correctness a0 l11 v48 (motive := fun y54 o66 => o51 = o66 → LoopAt _ _ [(7, .omp 0), (10, sl 1 cI v48), (88, sl 5 TIns.cells a0.fCode), (89, .int .i64 (a0.fCode.length : Int)), (90, .int .i64 y54)] [.row 0 2 l11.length 58 (row (mc (PV.int .i64) (PV.bool)) l11)]) ?_ 0 o51 h rfl
 intro F56 ih55 y54 o66 h hr67
 subst hr67
 refine LoopAt.round ?_
 refine .direct ?_
 refine .direct ?_
 refine splitB.mk (fun hb57 => ?_) (fun hb57 => ?_)
 replace h := T_dec hb57 h
 refine .direct ?_
 refine .direct ?_
 obtain ⟨x58, hx59, h⟩ := bind_some h
 refine ⟨idx_bd hx59, _, (idx_row hx59).trans (TIns.cells_eq x58), ?_⟩
 refine ⟨rfl, _, fun _ => [.int .i64 x58.fOp, .int .i64 x58.fA, .int .i64 x58.fB, .str x58.fS, .str x58.fT], rfl, one_set rfl, ?_⟩
 refine .direct ?_
 refine ⟨.bool (mgd l11 y54 false), mhas l11 y54, mlook_of (ti := tabT.get 3) (c := PV.int .i64) (d := PV.bool) (key_int .i64) l11 y54 false, ?_⟩
 refine splitB.mk (fun hb60 => ?_) (fun hb60 => ?_)
 have hb65 := not_F hb60
 replace h := F_var hb65 h
 refine splitB_t ?_
 refine splitB_t ?_
 obtain ⟨x61, hx62, h⟩ := bind_some h
 refine ⟨idx_bd hx62, _, (idx_row hx62).trans rfl, ?_⟩
 refine splitB_t ?_
 refine splitB_t ?_
 refine splitB_t ?_
 refine splitB.mk (fun hb63 => ?_) (fun hb63 => ?_)
 replace h := T_dec hb63 h
 refine ⟨rfl, ?_⟩
 refine splitB_t ?_
 refine ⟨rfl, _, rfl, ?_⟩
 refine splitB_t ?_
 refine splitB_t ?_
 refine splitB.mk (fun hb64 => ?_) (fun hb64 => ?_)
 replace h := T_bne hb64 h
 refine .direct ?_
 obtain rfl := Option.some.inj h
 replace h := hk53
 obtain rfl := Option.some.inj h
 exact ⟨[], .bool false, [], by decide, (show 0 ≤ 0 by decide), .bool_eq rfl, trivial, rfl, rfl⟩
 replace h := F_bne hb64 h
 exact ⟨[(7, .omp 0), (10, sl 1 cI v48), (88, sl 5 TIns.cells a0.fCode), (89, .int .i64 (a0.fCode.length : Int)), (90, .int .i64 (W64 (y54 + 1)))], [.row 0 2 l11.length 58 (row (mc (PV.int .i64) (PV.bool)) l11)], ⟨[0], by decide, (show 0 ≤ 1 by decide), ⟨.omp_eq rfl ⟨_, _, _, _, _, rfl⟩ ⟨_, _, _, _, _, rfl⟩, .slc_eq rfl (fun _ _ => rfl), .slc_eq rfl (fun _ _ => rfl), .int_eq rfl, .int_eq rfl, trivial⟩, ⟨⟨fun h0 => absurd (show 0 < 0 from h0) (by decide), rfl, .inl rfl, rfl, fz_mrow (fun _ => rfl) (fun _ => rfl)⟩, trivial⟩⟩, ih55 _ _ h rfl⟩
 replace h := F_dec hb63 h
 refine splitB_f ?_
 refine splitB_f ?_
 refine splitB_f ?_
 refine splitB_f ?_
 exact ⟨[(7, .omp 0), (10, sl 1 cI v48), (88, sl 5 TIns.cells a0.fCode), (89, .int .i64 (a0.fCode.length : Int)), (90, .int .i64 (W64 (y54 + 1)))], [.row 0 2 l11.length 58 (row (mc (PV.int .i64) (PV.bool)) l11)], ⟨[0], by decide, (show 0 ≤ 1 by decide), ⟨.omp_eq rfl ⟨_, _, _, _, _, rfl⟩ ⟨_, _, _, _, _, rfl⟩, .slc_eq rfl (fun _ _ => rfl), .slc_eq rfl (fun _ _ => rfl), .int_eq rfl, .int_eq rfl, trivial⟩, ⟨⟨fun h0 => absurd (show 0 < 0 from h0) (by decide), rfl, .inl rfl, rfl, fz_mrow (fun _ => rfl) (fun _ => rfl)⟩, trivial⟩⟩, ih55 _ _ h rfl⟩
 have hb65 := not_T hb60
 replace h := T_var hb65 h
 refine splitB_f ?_
 refine splitB_f ?_
 refine splitB_f ?_
 refine splitB_f ?_
 refine splitB_f ?_
 refine splitB_f ?_
 refine splitB_f ?_
 refine splitB_f ?_
 refine splitB_f ?_
 refine splitB_f ?_
 exact ⟨[(7, .omp 0), (10, sl 1 cI v48), (88, sl 5 TIns.cells a0.fCode), (89, .int .i64 (a0.fCode.length : Int)), (90, .int .i64 (W64 (y54 + 1)))], [.row 0 2 l11.length 58 (row (mc (PV.int .i64) (PV.bool)) l11)], ⟨[0], by decide, (show 0 ≤ 1 by decide), ⟨.omp_eq rfl ⟨_, _, _, _, _, rfl⟩ ⟨_, _, _, _, _, rfl⟩, .slc_eq rfl (fun _ _ => rfl), .slc_eq rfl (fun _ _ => rfl), .int_eq rfl, .int_eq rfl, trivial⟩, ⟨⟨fun h0 => absurd (show 0 < 0 from h0) (by decide), rfl, .inl rfl, rfl, fz_mrow (fun _ => rfl) (fun _ => rfl)⟩, trivial⟩⟩, ih55 _ _ h rfl⟩
 replace h := F_dec hb57 h
 exact ⟨[], [], ⟨[], by decide, (show 0 ≤ 0 by decide), trivial, trivial⟩, Option.some.inj h, rfl, rfl⟩
 rintro _ _ ⟨rfl, rfl, rfl⟩
 replace h := hk53
 refine .direct ?_
 obtain rfl := Option.some.inj h
 exact ⟨[], .bool true, [], by decide, (show 0 ≤ 0 by decide), .bool_eq rfl, trivial, rfl, rfl⟩
def m_i_CheckThread_L2 (a0 : TFunc) (a1 : TFunc) (y14 : Int) : Option ((Unit) ⊕ Bool) :=
 (if y14 < (a0.fCode.length : Int) then
 idx a0.fCode y14 >>= fun x18 =>
 idx a1.fCode y14 >>= fun x20 =>
 m_i_HasTarget x18.fOp >>= fun v22 =>
 (if v22 = true then
 (if x20.fOp = x18.fOp then
 m_i_walkFrom a0.fCode x18.fA >>= fun v26 =>
 m_ContainsN v26 x20.fA >>= fun v28 =>
 (if v28 = true then
 (if x18 = (TIns.mk x20.fOp x18.fA x20.fB x20.fS x20.fT) then
 m_i_CheckThread_L2 a0 a1 (W64 (y14 + 1))
 else
 some (.inr false))
 else
 (if x18 = x20 then
 m_i_CheckThread_L2 a0 a1 (W64 (y14 + 1))
 else
 some (.inr false)))
 else
 (if x18 = x20 then
 m_i_CheckThread_L2 a0 a1 (W64 (y14 + 1))
 else
 some (.inr false)))
 else
 (if x18 = x20 then
 m_i_CheckThread_L2 a0 a1 (W64 (y14 + 1))
 else
 some (.inr false)))
 else
 some (.inl ()))
partial_fixpoint
def m_i_CheckThread (a0 : TFunc) (a1 : TFunc) : Option (Bool) :=
 m_i_IsFunc a0 >>= fun v1 =>
 (if v1 = true then
 m_i_IsFunc a1 >>= fun v4 =>
 (if v4 = true then
 m_i_agree a0 a1 >>= fun v7 =>
 (if v7 = true then
 (if (a0.fCode.length : Int) = (a1.fCode.length : Int) then
 ((
 m_i_CheckThread_L2 a0 a1 0
 : Option ((Unit) ⊕ Bool)) >>= fun o11 => match o11 with
 | .inr r => some r
 | .inl _ =>
 some true
 )
 else
 some false)
 else
 some false)
 else
 some false)
 else
 some false)
theorem ok_i_CheckThread {a0 : TFunc} {a1 : TFunc} {r : Bool} (h : m_i_CheckThread a0 a1 = some r) : ACall Try.prog 15 [.agg [.str a0.fName, sl 2 TParam.cells a0.fParams, sl 2 TParam.cells a0.fUses, sl 1 cS a0.fSlots, .bool a0.fGen, sl 5 TIns.cells a0.fCode], .agg [.str a1.fName, sl 2 TParam.cells a1.fParams, sl 2 TParam.cells a1.fUses, sl 1 cS a1.fSlots, .bool a1.fGen, sl 5 TIns.cells a1.fCode]] [] (fun res h => res = .bool r ∧ h = []) := by
 refine ACall.of_vc tabT_ok mixed Try.func15 rfl (by kernel_rfl) _ _ _ rfl (by kernel_rfl) ?_
 unfold m_i_CheckThread at h
 refine .direct ?_
 refine .direct ?_
 refine .direct ?_
 refine ⟨rfl, _, rfl, ?_⟩
 obtain ⟨v1, hv2, h⟩ := bind_some h
 refine ⟨_, ACall.pure0 (ok_i_IsFunc hv2) _ rfl (fun _ => rfl), ?_⟩
 rintro _ _ ⟨rfl, rfl⟩
 refine splitB.mk (fun hb3 => ?_) (fun hb3 => ?_)
 have hb43 := not_F hb3
 replace h := F_var hb43 h
 refine splitB_t ?_
 refine splitB_t ?_
 refine splitB_t ?_
 refine splitB_t ?_
 refine splitB_t ?_
 refine splitB_t ?_
 refine splitB_t ?_
 refine splitB_t ?_
 refine splitB_t ?_
 refine splitB_t ?_
 refine splitB_t ?_
 refine splitB_t ?_
 refine splitB_t ?_
 refine splitB_t ?_
 refine splitB_t ?_
 refine splitB_t ?_
 refine splitB_t ?_
 refine .direct ?_
 obtain rfl := Option.some.inj h
 exact ⟨[], .bool false, [], by decide, (show 0 ≤ 0 by decide), .bool_eq rfl, trivial, rfl, rfl⟩
 have hb43 := not_T hb3
 replace h := T_var hb43 h
 refine ⟨rfl, _, rfl, ?_⟩
 refine splitB_f ?_
 obtain ⟨v4, hv5, h⟩ := bind_some h
 refine ⟨_, ACall.pure0 (ok_i_IsFunc hv5) _ rfl (fun _ => rfl), ?_⟩
 rintro _ _ ⟨rfl, rfl⟩
 refine splitB_f ?_
 refine splitB_f ?_
 refine splitB.mk (fun hb6 => ?_) (fun hb6 => ?_)
 have hb42 := not_F hb6
 replace h := F_var hb42 h
 refine splitB_t ?_
 refine splitB_t ?_
 refine splitB_t ?_
 refine splitB_t ?_
 refine splitB_t ?_
 refine splitB_t ?_
 refine splitB_t ?_
 refine splitB_t ?_
 refine splitB_t ?_
 refine splitB_t ?_
 refine splitB_t ?_
 refine splitB_t ?_
 refine splitB_t ?_
 refine .direct ?_
 obtain rfl := Option.some.inj h
 exact ⟨[], .bool false, [], by decide, (show 0 ≤ 0 by decide), .bool_eq rfl, trivial, rfl, rfl⟩
 have hb42 := not_T hb6
 replace h := T_var hb42 h
 refine ⟨rfl, _, rfl, ?_⟩
 refine splitB_f ?_
 refine ⟨rfl, _, rfl, ?_⟩
 refine splitB_f ?_
 obtain ⟨v7, hv8, h⟩ := bind_some h
 refine ⟨_, ACall.pure0 (ok_i_agree hv8) _ rfl (fun _ => rfl), ?_⟩
 rintro _ _ ⟨rfl, rfl⟩
 refine splitB_f ?_
 refine splitB_f ?_
 refine splitB.mk (fun hb9 => ?_) (fun hb9 => ?_)
 have hb41 := not_F hb9
 replace h := F_var hb41 h
 refine splitB_t ?_
 refine splitB_t ?_
 refine splitB_t ?_
 refine splitB_t ?_
 refine splitB_t ?_
 refine splitB_t ?_
 refine splitB_t ?_
 refine splitB_t ?_
 refine .direct ?_
 obtain rfl := Option.some.inj h
 exact ⟨[], .bool false, [], by decide, (show 0 ≤ 0 by decide), .bool_eq rfl, trivial, rfl, rfl⟩
 have hb41 := not_T hb9
 replace h := T_var hb41 h
 refine ⟨rfl, ?_⟩
 refine splitB_f ?_
 refine ⟨rfl, _, rfl, ?_⟩
 refine splitB_f ?_
 refine splitB_f ?_
 refine ⟨rfl, ?_⟩
 refine splitB_f ?_
 refine ⟨rfl, _, rfl, ?_⟩
 refine splitB_f ?_
 refine splitB_f ?_
 refine splitB_f ?_
 refine splitB.mk (fun hb10 => ?_) (fun hb10 => ?_)
 replace h := T_bne hb10 h
 refine .direct ?_
 obtain rfl := Option.some.inj h
 exact ⟨[], .bool false, [], by decide, (show 0 ≤ 0 by decide), .bool_eq rfl, trivial, rfl, rfl⟩
 replace h := F_bne hb10 h
 obtain ⟨o11, ho12, hk13⟩ := bind_some h
 replace h := ho12
 refine .cut (fun σ η => .inl () = o11 ∧ σ = [] ∧ η = []) ?_ ?_
 refine .direct ?_
 refine ⟨rfl, ?_⟩
 refine ⟨rfl, _, rfl, ?_⟩
 refine LoopAt.enter [(2, .optr 0 0 0 0), (3, .optr 1 0 0 0), (32, sl 5 TIns.cells a0.fCode), (33, .int .i64 (a0.fCode.length : Int)), (34, .int .i64 0)] [.row 0 6 1 33 (fun _ => [.str a0.fName, sl 2 TParam.cells a0.fParams, sl 2 TParam.cells a0.fUses, sl 1 cS a0.fSlots, .bool a0.fGen, sl 5 TIns.cells a0.fCode]), .row 0 6 1 33 (fun _ => [.str a1.fName, sl 2 TParam.cells a1.fParams, sl 2 TParam.cells a1.fUses, sl 1 cS a1.fSlots, .bool a1.fGen, sl 5 TIns.cells a1.fCode])] ⟨[0, 1], by decide, (show 0 ≤ 2 by decide), ⟨.optr_eq rfl ⟨_, _, _, _, rfl⟩ ⟨_, _, _, _, rfl, Nat.zero_lt_one⟩ rfl rfl, .optr_eq rfl ⟨_, _, _, _, rfl⟩ ⟨_, _, _, _, rfl, Nat.zero_lt_one⟩ rfl rfl, .slc_eq rfl (fun _ _ => rfl), .int_eq rfl, .int_eq rfl, trivial⟩, ⟨⟨fun h0 => absurd (show 0 < 0 from h0) (by decide), rfl, .inl rfl, rfl, fun _ _ => ⟨.str_eq rfl, .slc_eq rfl (fun _ _ => rfl), .slc_eq rfl (fun _ _ => rfl), .slc_eq rfl (fun _ _ => rfl), .bool_eq rfl, .slc_eq rfl (fun _ _ => rfl), trivial⟩⟩, ⟨fun h0 => absurd (show 1 < 0 from h0) (by decide), rfl, .inl rfl, rfl, fun _ _ => ⟨.str_eq rfl, .slc_eq rfl (fun _ _ => rfl), .slc_eq rfl (fun _ _ => rfl), .slc_eq rfl (fun _ _ => rfl), .bool_eq rfl, .slc_eq rfl (fun _ _ => rfl), trivial⟩⟩, trivial⟩⟩ ?_
 refine m_i_CheckThread_L2.partial_correctness a0 a1 (motive := fun y14 o39 => o11 = o39 → LoopAt _ _ [(2, .optr 0 0 0 0), (3, .optr 1 0 0 0), (32, sl 5 TIns.cells a0.fCode), (33, .int .i64 (a0.fCode.length : Int)), (34, .int .i64 y14)] [.row 0 6 1 33 (fun _ => [.str a0.fName, sl 2 TParam.cells a0.fParams, sl 2 TParam.cells a0.fUses, sl 1 cS a0.fSlots, .bool a0.fGen, sl 5 TIns.cells a0.fCode]), .row 0 6 1 33 (fun _ => [.str a1.fName, sl 2 TParam.cells a1.fParams, sl 2 TParam.cells a1.fUses, sl 1 cS a1.fSlots, .bool a1.fGen, sl 5 TIns.cells a1.fCode])]) ?_ 0 o11 h rfl
 intro F16 ih15 y14 o39 h hr40
 subst hr40
 refine LoopAt.round ?_
 refine .direct ?_
 refine .direct ?_
 refine splitB.mk (fun hb17 => ?_) (fun hb17 => ?_)
 replace h := T_dec hb17 h
 refine .direct ?_
 refine .direct ?_
 obtain ⟨x18, hx19, h⟩ := bind_some h
 refine ⟨idx_bd hx19, _, (idx_row hx19).trans (TIns.cells_eq x18), ?_⟩
 refine ⟨rfl, _, fun _ => [.int .i64 x18.fOp, .int .i64 x18.fA, .int .i64 x18.fB, .str x18.fS, .str x18.fT], rfl, one_set rfl, ?_⟩
 refine .direct ?_
 refine ⟨rfl, ?_⟩
 refine ⟨rfl, _, rfl, ?_⟩
 obtain ⟨x20, hx21, h⟩ := bind_some h
 refine ⟨idx_bd hx21, _, (idx_row hx21).trans (TIns.cells_eq x20), ?_⟩
 refine ⟨rfl, _, fun _ => [.int .i64 x20.fOp, .int .i64 x20.fA, .int .i64 x20.fB, .str x20.fS, .str x20.fT], rfl, one_set rfl, ?_⟩
 refine .direct ?_
 refine .direct ?_
 refine .float [(0, true), (1, true), (2, false), (3, true), (4, true), (5, true), (6, true), (7, true), (8, true), (9, true), (10, true), (11, true), (12, true), (13, true), (14, true), (16, true), (17, true), (15, false), (18, false), (19, true)] (by kernel_rfl) ?_
 refine ⟨rfl, ?_⟩
 refine ⟨rfl, _, rfl, ?_⟩
 obtain ⟨v22, hv23, h⟩ := bind_some h
 refine ⟨_, ACall.pure0 (ok_i_HasTarget hv23) _ rfl (fun _ => rfl), ?_⟩
 rintro _ _ ⟨rfl, rfl⟩
 refine splitB.mk (fun hb24 => ?_) (fun hb24 => ?_)
 replace h := T_var hb24 h
 refine ⟨rfl, ?_⟩
 refine splitB_t ?_
 refine ⟨rfl, _, rfl, ?_⟩
 refine splitB_t ?_
 refine ⟨rfl, ?_⟩
 refine splitB_t ?_
 refine ⟨rfl, _, rfl, ?_⟩
 refine splitB_t ?_
 refine splitB_t ?_
 refine splitB.mk (fun hb25 => ?_) (fun hb25 => ?_)
 replace h := T_beq hb25 h
 refine ⟨rfl, ?_⟩
 refine splitB_t ?_
 refine ⟨rfl, _, rfl, ?_⟩
 refine splitB_t ?_
 refine ⟨rfl, ?_⟩
 refine splitB_t ?_
 refine ⟨rfl, _, rfl, ?_⟩
 refine splitB_t ?_
 refine ⟨rfl, ?_⟩
 refine splitB_t ?_
 refine ⟨rfl, _, rfl, ?_⟩
 refine splitB_t ?_
 obtain ⟨v26, hv27, h⟩ := bind_some h
 refine ⟨_, ACall.pure0 (ok_i_walkFrom hv27) _ rfl (fun _ => rfl), ?_⟩
 rintro _ _ ⟨rfl, rfl⟩
 refine ⟨rfl, ?_⟩
 refine ⟨rfl, ?_⟩
 refine splitB_t ?_
 obtain ⟨v28, hv29, h⟩ := bind_some h
 refine ⟨_, ACall.pure0 (ok_ContainsN hv29) _ rfl (fun _ => rfl), ?_⟩
 rintro _ _ ⟨rfl, rfl⟩
 refine splitB_t ?_
 refine splitB.mk (fun hb30 => ?_) (fun hb30 => ?_)
 replace h := T_var hb30 h
 refine ⟨rfl, ?_⟩
 refine ⟨rfl, _, rfl, ?_⟩
 refine ⟨rfl, ?_⟩
 refine ⟨rfl, _, fun _ => [.int .i64 x20.fOp, .int .i64 x18.fA, .int .i64 x20.fB, .str x20.fS, .str x20.fT], rfl, one_set rfl, ?_⟩
 refine .direct ?_
 refine ⟨rfl, _, rfl, ?_⟩
 refine ⟨rfl, _, rfl, ?_⟩
 refine ⟨_, TIns.eq_cells x18 (TIns.mk x20.fOp x18.fA x20.fB x20.fS x20.fT), ?_⟩
 refine splitB.mk (fun hb31 => ?_) (fun hb31 => ?_)
 have hb32 := not_F hb31
 replace h := F_dec hb32 h
 refine .direct ?_
 obtain rfl := Option.some.inj h
 replace h := hk13
 obtain rfl := Option.some.inj h
 exact ⟨[], .bool false, [], by decide, (show 0 ≤ 0 by decide), .bool_eq rfl, trivial, rfl, rfl⟩
 have hb32 := not_T hb31
 replace h := T_dec hb32 h
 exact ⟨[(2, .optr 0 0 0 0), (3, .optr 1 0 0 0), (32, sl 5 TIns.cells a0.fCode), (33, .int .i64 (a0.fCode.length : Int)), (34, .int .i64 (W64 (y14 + 1)))], [.row 0 6 1 33 (fun _ => [.str a0.fName, sl 2 TParam.cells a0.fParams, sl 2 TParam.cells a0.fUses, sl 1 cS a0.fSlots, .bool a0.fGen, sl 5 TIns.cells a0.fCode]), .row 0 6 1 33 (fun _ => [.str a1.fName, sl 2 TParam.cells a1.fParams, sl 2 TParam.cells a1.fUses, sl 1 cS a1.fSlots, .bool a1.fGen, sl 5 TIns.cells a1.fCode])], ⟨[0, 1], by decide, (show 0 ≤ 2 by decide), ⟨.optr_eq rfl ⟨_, _, _, _, rfl⟩ ⟨_, _, _, _, rfl, Nat.zero_lt_one⟩ rfl rfl, .optr_eq rfl ⟨_, _, _, _, rfl⟩ ⟨_, _, _, _, rfl, Nat.zero_lt_one⟩ rfl rfl, .slc_eq rfl (fun _ _ => rfl), .int_eq rfl, .int_eq rfl, trivial⟩, ⟨⟨fun h0 => absurd (show 0 < 0 from h0) (by decide), rfl, .inl rfl, rfl, fun _ _ => ⟨.str_eq rfl, .slc_eq rfl (fun _ _ => rfl), .slc_eq rfl (fun _ _ => rfl), .slc_eq rfl (fun _ _ => rfl), .bool_eq rfl, .slc_eq rfl (fun _ _ => rfl), trivial⟩⟩, ⟨fun h0 => absurd (show 1 < 0 from h0) (by decide), rfl, .inl rfl, rfl, fun _ _ => ⟨.str_eq rfl, .slc_eq rfl (fun _ _ => rfl), .slc_eq rfl (fun _ _ => rfl), .slc_eq rfl (fun _ _ => rfl), .bool_eq rfl, .slc_eq rfl (fun _ _ => rfl), trivial⟩⟩, trivial⟩⟩, ih15 _ _ h rfl⟩
 replace h := F_var hb30 h
 refine .direct ?_
 refine ⟨rfl, _, rfl, ?_⟩
 refine ⟨rfl, _, rfl, ?_⟩
 refine ⟨_, TIns.eq_cells x18 x20, ?_⟩
 refine splitB.mk (fun hb33 => ?_) (fun hb33 => ?_)
 have hb34 := not_F hb33
 replace h := F_dec hb34 h
 refine .direct ?_
 obtain rfl := Option.some.inj h
 replace h := hk13
 obtain rfl := Option.some.inj h
 exact ⟨[], .bool false, [], by decide, (show 0 ≤ 0 by decide), .bool_eq rfl, trivial, rfl, rfl⟩
 have hb34 := not_T hb33
 replace h := T_dec hb34 h
 exact ⟨[(2, .optr 0 0 0 0), (3, .optr 1 0 0 0), (32, sl 5 TIns.cells a0.fCode), (33, .int .i64 (a0.fCode.length : Int)), (34, .int .i64 (W64 (y14 + 1)))], [.row 0 6 1 33 (fun _ => [.str a0.fName, sl 2 TParam.cells a0.fParams, sl 2 TParam.cells a0.fUses, sl 1 cS a0.fSlots, .bool a0.fGen, sl 5 TIns.cells a0.fCode]), .row 0 6 1 33 (fun _ => [.str a1.fName, sl 2 TParam.cells a1.fParams, sl 2 TParam.cells a1.fUses, sl 1 cS a1.fSlots, .bool a1.fGen, sl 5 TIns.cells a1.fCode])], ⟨[0, 1], by decide, (show 0 ≤ 2 by decide), ⟨.optr_eq rfl ⟨_, _, _, _, rfl⟩ ⟨_, _, _, _, rfl, Nat.zero_lt_one⟩ rfl rfl, .optr_eq rfl ⟨_, _, _, _, rfl⟩ ⟨_, _, _, _, rfl, Nat.zero_lt_one⟩ rfl rfl, .slc_eq rfl (fun _ _ => rfl), .int_eq rfl, .int_eq rfl, trivial⟩, ⟨⟨fun h0 => absurd (show 0 < 0 from h0) (by decide), rfl, .inl rfl, rfl, fun _ _ => ⟨.str_eq rfl, .slc_eq rfl (fun _ _ => rfl), .slc_eq rfl (fun _ _ => rfl), .slc_eq rfl (fun _ _ => rfl), .bool_eq rfl, .slc_eq rfl (fun _ _ => rfl), trivial⟩⟩, ⟨fun h0 => absurd (show 1 < 0 from h0) (by decide), rfl, .inl rfl, rfl, fun _ _ => ⟨.str_eq rfl, .slc_eq rfl (fun _ _ => rfl), .slc_eq rfl (fun _ _ => rfl), .slc_eq rfl (fun _ _ => rfl), .bool_eq rfl, .slc_eq rfl (fun _ _ => rfl), trivial⟩⟩, trivial⟩⟩, ih15 _ _ h rfl⟩
 replace h := F_beq hb25 h
 refine splitB_f ?_
 refine splitB_f ?_
 refine splitB_f ?_
 refine splitB_f ?_
 refine splitB_f ?_
 refine splitB_f ?_
 refine ⟨rfl, ?_⟩
 refine splitB_f ?_
 refine splitB_f ?_
 refine splitB_f ?_
 refine .direct ?_
 refine ⟨rfl, _, rfl, ?_⟩
 refine ⟨rfl, _, rfl, ?_⟩
 refine ⟨_, TIns.eq_cells x18 x20, ?_⟩
 refine splitB.mk (fun hb35 => ?_) (fun hb35 => ?_)
 have hb36 := not_F hb35
 replace h := F_dec hb36 h
 refine .direct ?_
 obtain rfl := Option.some.inj h
 replace h := hk13
 obtain rfl := Option.some.inj h
 exact ⟨[], .bool false, [], by decide, (show 0 ≤ 0 by decide), .bool_eq rfl, trivial, rfl, rfl⟩
 have hb36 := not_T hb35
 replace h := T_dec hb36 h
 exact ⟨[(2, .optr 0 0 0 0), (3, .optr 1 0 0 0), (32, sl 5 TIns.cells a0.fCode), (33, .int .i64 (a0.fCode.length : Int)), (34, .int .i64 (W64 (y14 + 1)))], [.row 0 6 1 33 (fun _ => [.str a0.fName, sl 2 TParam.cells a0.fParams, sl 2 TParam.cells a0.fUses, sl 1 cS a0.fSlots, .bool a0.fGen, sl 5 TIns.cells a0.fCode]), .row 0 6 1 33 (fun _ => [.str a1.fName, sl 2 TParam.cells a1.fParams, sl 2 TParam.cells a1.fUses, sl 1 cS a1.fSlots, .bool a1.fGen, sl 5 TIns.cells a1.fCode])], ⟨[0, 1], by decide, (show 0 ≤ 2 by decide), ⟨.optr_eq rfl ⟨_, _, _, _, rfl⟩ ⟨_, _, _, _, rfl, Nat.zero_lt_one⟩ rfl rfl, .optr_eq rfl ⟨_, _, _, _, rfl⟩ ⟨_, _, _, _, rfl, Nat.zero_lt_one⟩ rfl rfl, .slc_eq rfl (fun _ _ => rfl), .int_eq rfl, .int_eq rfl, trivial⟩, ⟨⟨fun h0 => absurd (show 0 < 0 from h0) (by decide), rfl, .inl rfl, rfl, fun _ _ => ⟨.str_eq rfl, .slc_eq rfl (fun _ _ => rfl), .slc_eq rfl (fun _ _ => rfl), .slc_eq rfl (fun _ _ => rfl), .bool_eq rfl, .slc_eq rfl (fun _ _ => rfl), trivial⟩⟩, ⟨fun h0 => absurd (show 1 < 0 from h0) (by decide), rfl, .inl rfl, rfl, fun _ _ => ⟨.str_eq rfl, .slc_eq rfl (fun _ _ => rfl), .slc_eq rfl (fun _ _ => rfl), .slc_eq rfl (fun _ _ => rfl), .bool_eq rfl, .slc_eq rfl (fun _ _ => rfl), trivial⟩⟩, trivial⟩⟩, ih15 _ _ h rfl⟩
 replace h := F_var hb24 h
 refine splitB_f ?_
 refine splitB_f ?_
 refine splitB_f ?_
 refine splitB_f ?_
 refine splitB_f ?_
 refine splitB_f ?_
 refine splitB_f ?_
 refine splitB_f ?_
 refine splitB_f ?_
 refine splitB_f ?_
 refine splitB_f ?_
 refine splitB_f ?_
 refine ⟨rfl, ?_⟩
 refine splitB_f ?_
 refine splitB_f ?_
 refine splitB_f ?_
 refine .direct ?_
 refine ⟨rfl, _, rfl, ?_⟩
 refine ⟨rfl, _, rfl, ?_⟩
 refine ⟨_, TIns.eq_cells x18 x20, ?_⟩
 refine splitB.mk (fun hb37 => ?_) (fun hb37 => ?_)
 have hb38 := not_F hb37
 replace h := F_dec hb38 h
 refine .direct ?_
 obtain rfl := Option.some.inj h
 replace h := hk13
 obtain rfl := Option.some.inj h
 exact ⟨[], .bool false, [], by decide, (show 0 ≤ 0 by decide), .bool_eq rfl, trivial, rfl, rfl⟩
 have hb38 := not_T hb37
 replace h := T_dec hb38 h
 exact ⟨[(2, .optr 0 0 0 0), (3, .optr 1 0 0 0), (32, sl 5 TIns.cells a0.fCode), (33, .int .i64 (a0.fCode.length : Int)), (34, .int .i64 (W64 (y14 + 1)))], [.row 0 6 1 33 (fun _ => [.str a0.fName, sl 2 TParam.cells a0.fParams, sl 2 TParam.cells a0.fUses, sl 1 cS a0.fSlots, .bool a0.fGen, sl 5 TIns.cells a0.fCode]), .row 0 6 1 33 (fun _ => [.str a1.fName, sl 2 TParam.cells a1.fParams, sl 2 TParam.cells a1.fUses, sl 1 cS a1.fSlots, .bool a1.fGen, sl 5 TIns.cells a1.fCode])], ⟨[0, 1], by decide, (show 0 ≤ 2 by decide), ⟨.optr_eq rfl ⟨_, _, _, _, rfl⟩ ⟨_, _, _, _, rfl, Nat.zero_lt_one⟩ rfl rfl, .optr_eq rfl ⟨_, _, _, _, rfl⟩ ⟨_, _, _, _, rfl, Nat.zero_lt_one⟩ rfl rfl, .slc_eq rfl (fun _ _ => rfl), .int_eq rfl, .int_eq rfl, trivial⟩, ⟨⟨fun h0 => absurd (show 0 < 0 from h0) (by decide), rfl, .inl rfl, rfl, fun _ _ => ⟨.str_eq rfl, .slc_eq rfl (fun _ _ => rfl), .slc_eq rfl (fun _ _ => rfl), .slc_eq rfl (fun _ _ => rfl), .bool_eq rfl, .slc_eq rfl (fun _ _ => rfl), trivial⟩⟩, ⟨fun h0 => absurd (show 1 < 0 from h0) (by decide), rfl, .inl rfl, rfl, fun _ _ => ⟨.str_eq rfl, .slc_eq rfl (fun _ _ => rfl), .slc_eq rfl (fun _ _ => rfl), .slc_eq rfl (fun _ _ => rfl), .bool_eq rfl, .slc_eq rfl (fun _ _ => rfl), trivial⟩⟩, trivial⟩⟩, ih15 _ _ h rfl⟩
 replace h := F_dec hb17 h
 exact ⟨[], [], ⟨[], by decide, (show 0 ≤ 0 by decide), trivial, trivial⟩, Option.some.inj h, rfl, rfl⟩
 rintro _ _ ⟨rfl, rfl, rfl⟩
 replace h := hk13
 refine .direct ?_
 obtain rfl := Option.some.inj h
 exact ⟨[], .bool true, [], by decide, (show 0 ≤ 0 by decide), .bool_eq rfl, trivial, rfl, rfl⟩
def m_s_CheckDrop_L2 (a0 : TFunc) (a2 : List Int) (v11 : List Int) (l19 : List Int) (y20 : Int) (y21 : Int) : Option (((List Int) × Int) ⊕ Bool) :=
 (if y21 < (v11.length : Int) then
 lapp 8 l19 ([y20] : List Int) >>= fun l25 =>
 (
 (if y20 < (a2.length : Int) then
 idx a2 y20 >>= fun x32 =>
 some (x32 == y21)
 else
 some false)
 : Option (Bool)) >>= fun b27 =>
 (if b27 = true then
 m_s_CheckDrop_L2 a0 a2 v11 l25 (W64 (y20 + 1)) (W64 (y21 + 1))
 else
 idx v11 y21 >>= fun x35 =>
 (if x35 ≥ 0 then
 idx a0.fCode y21 >>= fun x38 =>
 (if x38.fOp = 1 then
 m_s_CheckDrop_L2 a0 a2 v11 l25 y20 (W64 (y21 + 1))
 else
 some (.inr false))
 else
 m_s_CheckDrop_L2 a0 a2 v11 l25 y20 (W64 (y21 + 1))))
 else
 some (.inl (l19, y20)))
partial_fixpoint
def m_s_CheckDrop_L4 (a0 : TFunc) (a1 : TFunc) (a2 : List Int) (l14 : List Int) (y47 : Int) : Option ((Unit) ⊕ Bool) :=
 (if y47 < (a2.length : Int) then
 idx a2 y47 >>= fun x51 =>
 idx a0.fCode x51 >>= fun x53 =>
 m_s_HasTarget x53.fOp >>= fun v55 =>
 (if v55 = true then
 idx l14 x53.fA >>= fun x58 =>
 idx a1.fCode y47 >>= fun x60 =>
 (if (TIns.mk x53.fOp x58 x53.fB x53.fS x53.fT) = x60 then
 m_s_CheckDrop_L4 a0 a1 a2 l14 (W64 (y47 + 1))
 else
 some (.inr false))
 else
 idx a1.fCode y47 >>= fun x64 =>
 (if x53 = x64 then
 m_s_CheckDrop_L4 a0 a1 a2 l14 (W64 (y47 + 1))
 else
 some (.inr false)))
 else
 some (.inl ()))
partial_fixpoint
def m_s_CheckDrop (a0 : TFunc) (a1 : TFunc) (a2 : List Int) : Option (Bool) :=
 m_s_IsFunc a0 >>= fun v1 =>
 (if v1 = true then
 m_s_IsFunc a1 >>= fun v4 =>
 (if v4 = true then
 m_s_l30Same a0 a1 >>= fun v7 =>
 (if v7 = true then
 (if (a2.length : Int) = (a1.fCode.length : Int) then
 m_s_HeightsOf a0 >>= fun (v11, v12) =>
 ((
 m_s_CheckDrop_L2 a0 a2 v11 ([] : List Int) 0 0
 : Option (((List Int) × Int) ⊕ Bool)) >>= fun o16 => match o16 with
 | .inr r => some r
 | .inl (l14, y15) =>
 (if y15 = (a2.length : Int) then
 ((
 m_s_CheckDrop_L4 a0 a1 a2 l14 0
 : Option ((Unit) ⊕ Bool)) >>= fun o44 => match o44 with
 | .inr r => some r
 | .inl _ =>
 some true
 )
 else
 some false)
 )
 else
 some false)
 else
 some false)
 else
 some false)
 else
 some false)
theorem ok_s_CheckDrop {a0 : TFunc} {a1 : TFunc} {a2 : List Int} {r : Bool} (h : m_s_CheckDrop a0 a1 a2 = some r) : ACall Try.prog 8 [.agg [.str a0.fName, sl 2 TParam.cells a0.fParams, sl 2 TParam.cells a0.fUses, sl 1 cS a0.fSlots, .bool a0.fGen, sl 5 TIns.cells a0.fCode], .agg [.str a1.fName, sl 2 TParam.cells a1.fParams, sl 2 TParam.cells a1.fUses, sl 1 cS a1.fSlots, .bool a1.fGen, sl 5 TIns.cells a1.fCode], sl 1 cI a2] [] (fun res h => res = .bool r ∧ h = []) := by
 refine ACall.of_vc tabT_ok mixed Try.func8 rfl (by kernel_rfl) _ _ _ rfl (by kernel_rfl) ?_
 unfold m_s_CheckDrop at h
 refine .direct ?_
 refine .direct ?_
 refine .direct ?_
 refine ⟨rfl, _, rfl, ?_⟩
 obtain ⟨v1, hv2, h⟩ := bind_some h
 refine ⟨_, ACall.pure0 (ok_s_IsFunc hv2) _ rfl (fun _ => rfl), ?_⟩
 rintro _ _ ⟨rfl, rfl⟩
 refine splitB.mk (fun hb3 => ?_) (fun hb3 => ?_)
 have hb72 := not_F hb3
 replace h := F_var hb72 h
 refine splitB_t ?_
 refine splitB_t ?_
 refine splitB_t ?_
 refine splitB_t ?_
 refine splitB_t ?_
 refine splitB_t ?_
 refine splitB_t ?_
 refine splitB_t ?_
 refine splitB_t ?_
 refine splitB_t ?_
 refine splitB_t ?_
 refine splitB_t ?_
 refine splitB_t ?_
 refine splitB_t ?_
 refine splitB_t ?_
 refine splitB_t ?_
 refine .direct ?_
 obtain rfl := Option.some.inj h
 exact ⟨[], .bool false, [], by decide, (show 0 ≤ 0 by decide), .bool_eq rfl, trivial, rfl, rfl⟩
 have hb72 := not_T hb3
 replace h := T_var hb72 h
 refine ⟨rfl, _, rfl, ?_⟩
 refine splitB_f ?_
 obtain ⟨v4, hv5, h⟩ := bind_some h
 refine ⟨_, ACall.pure0 (ok_s_IsFunc hv5) _ rfl (fun _ => rfl), ?_⟩
 rintro _ _ ⟨rfl, rfl⟩
 refine splitB_f ?_
 refine splitB_f ?_
 refine splitB.mk (fun hb6 => ?_) (fun hb6 => ?_)
 have hb71 := not_F hb6
 replace h := F_var hb71 h
 refine splitB_t ?_
 refine splitB_t ?_
 refine splitB_t ?_
 refine splitB_t ?_
 refine splitB_t ?_
 refine splitB_t ?_
 refine splitB_t ?_
 refine splitB_t ?_
 refine splitB_t ?_
 refine splitB_t ?_
 refine splitB_t ?_
 refine splitB_t ?_
 refine .direct ?_
 obtain rfl := Option.some.inj h
 exact ⟨[], .bool false, [], by decide, (show 0 ≤ 0 by decide), .bool_eq rfl, trivial, rfl, rfl⟩
 have hb71 := not_T hb6
 replace h := T_var hb71 h
 refine ⟨rfl, _, rfl, ?_⟩
 refine splitB_f ?_
 refine ⟨rfl, _, rfl, ?_⟩
 refine splitB_f ?_
 obtain ⟨v7, hv8, h⟩ := bind_some h
 refine ⟨_, ACall.pure0 (ok_s_l30Same hv8) _ rfl (fun _ => rfl), ?_⟩
 rintro _ _ ⟨rfl, rfl⟩
 refine splitB_f ?_
 refine splitB_f ?_
 refine splitB.mk (fun hb9 => ?_) (fun hb9 => ?_)
 have hb70 := not_F hb9
 replace h := F_var hb70 h
 refine splitB_t ?_
 refine splitB_t ?_
 refine splitB_t ?_
 refine splitB_t ?_
 refine splitB_t ?_
 refine splitB_t ?_
 refine splitB_t ?_
 refine .direct ?_
 obtain rfl := Option.some.inj h
 exact ⟨[], .bool false, [], by decide, (show 0 ≤ 0 by decide), .bool_eq rfl, trivial, rfl, rfl⟩
 have hb70 := not_T hb9
 replace h := T_var hb70 h
 refine splitB_f ?_
 refine splitB_f ?_
 refine ⟨rfl, ?_⟩
 refine splitB_f ?_
 refine ⟨rfl, _, rfl, ?_⟩
 refine splitB_f ?_
 refine splitB_f ?_
 refine splitB_f ?_
 refine splitB.mk (fun hb10 => ?_) (fun hb10 => ?_)
 replace h := T_bne hb10 h
 refine .direct ?_
 obtain rfl := Option.some.inj h
 exact ⟨[], .bool false, [], by decide, (show 0 ≤ 0 by decide), .bool_eq rfl, trivial, rfl, rfl⟩
 replace h := F_bne hb10 h
 refine .direct ?_
 refine ⟨rfl, _, rfl, ?_⟩
 obtain ⟨⟨v11, v12⟩, hv13, h⟩ := bind_some h
 refine ⟨_, ACall.pure0 (ok_s_HeightsOf hv13) _ rfl (fun _ => rfl), ?_⟩
 rintro _ _ ⟨rfl, rfl⟩
 refine .direct ?_
 refine ⟨row cI ([] : List Int), row_lit cI ([] : List Int) rfl (cll_refl rfl), ?_⟩
 refine .direct ?_
 obtain ⟨o16, ho17, hk18⟩ := bind_some h
 replace h := ho17
 refine .cut (fun σ η => ∃ l14, ∃ y15, .inl (l14, y15) = o16 ∧ σ = [(2, sl 1 cI a2), (3, .optr 0 0 0 0), (4, .optr 1 0 0 0), (9, .own 2 0 0 l14.length), (10, .int .i64 y15)] ∧ η = [.row 0 6 1 33 (fun _ => [.str a0.fName, sl 2 TParam.cells a0.fParams, sl 2 TParam.cells a0.fUses, sl 1 cS a0.fSlots, .bool a0.fGen, sl 5 TIns.cells a0.fCode]), .row 0 6 1 33 (fun _ => [.str a1.fName, sl 2 TParam.cells a1.fParams, sl 2 TParam.cells a1.fUses, sl 1 cS a1.fSlots, .bool a1.fGen, sl 5 TIns.cells a1.fCode]), .row 0 1 l14.length 3 (row cI l14)]) ?_ ?_
 refine .direct ?_
 refine LoopAt.enter [(2, sl 1 cI a2), (3, .optr 0 0 0 0), (4, .optr 1 0 0 0), (7, sl 1 cI v11), (9, .own 2 0 0 ([] : List Int).length), (10, .int .i64 0), (11, .int .i64 0)] [.row 0 6 1 33 (fun _ => [.str a0.fName, sl 2 TParam.cells a0.fParams, sl 2 TParam.cells a0.fUses, sl 1 cS a0.fSlots, .bool a0.fGen, sl 5 TIns.cells a0.fCode]), .row 0 6 1 33 (fun _ => [.str a1.fName, sl 2 TParam.cells a1.fParams, sl 2 TParam.cells a1.fUses, sl 1 cS a1.fSlots, .bool a1.fGen, sl 5 TIns.cells a1.fCode]), .row 0 1 ([] : List Int).length 3 (row cI ([] : List Int))] ⟨[0, 1, 2], by decide, (show 0 ≤ 3 by decide), ⟨.slc_eq rfl (fun _ _ => rfl), .optr_eq rfl ⟨_, _, _, _, rfl⟩ ⟨_, _, _, _, rfl, Nat.zero_lt_one⟩ rfl rfl, .optr_eq rfl ⟨_, _, _, _, rfl⟩ ⟨_, _, _, _, rfl, Nat.zero_lt_one⟩ rfl rfl, .slc_eq rfl (fun _ _ => rfl), .own_eq rfl ⟨_, _, _, _, rfl⟩ ⟨_, _, _, _, rfl, Nat.le_of_eq (Nat.zero_add _)⟩ rfl rfl, .int_eq rfl, .int_eq rfl, trivial⟩, ⟨⟨fun h0 => absurd (show 0 < 0 from h0) (by decide), rfl, .inl rfl, rfl, fun _ _ => ⟨.str_eq rfl, .slc_eq rfl (fun _ _ => rfl), .slc_eq rfl (fun _ _ => rfl), .slc_eq rfl (fun _ _ => rfl), .bool_eq rfl, .slc_eq rfl (fun _ _ => rfl), trivial⟩⟩, ⟨fun h0 => absurd (show 1 < 0 from h0) (by decide), rfl, .inl rfl, rfl, fun _ _ => ⟨.str_eq rfl, .slc_eq rfl (fun _ _ => rfl), .slc_eq rfl (fun _ _ => rfl), .slc_eq rfl (fun _ _ => rfl), .bool_eq rfl, .slc_eq rfl (fun _ _ => rfl), trivial⟩⟩, ⟨fun h0 => absurd (show 2 < 0 from h0) (by decide), rfl, .inl rfl, rfl, fz_row cI_pure⟩, trivial⟩⟩ ?_
 refine m_s_CheckDrop_L2.partial_correctness a0 a2 v11 (motive := fun l19 y20 y21 o41 => o16 = o41 → LoopAt _ _ [(2, sl 1 cI a2), (3, .optr 0 0 0 0), (4, .optr 1 0 0 0), (7, sl 1 cI v11), (9, .own 2 0 0 l19.length), (10, .int .i64 y20), (11, .int .i64 y21)] [.row 0 6 1 33 (fun _ => [.str a0.fName, sl 2 TParam.cells a0.fParams, sl 2 TParam.cells a0.fUses, sl 1 cS a0.fSlots, .bool a0.fGen, sl 5 TIns.cells a0.fCode]), .row 0 6 1 33 (fun _ => [.str a1.fName, sl 2 TParam.cells a1.fParams, sl 2 TParam.cells a1.fUses, sl 1 cS a1.fSlots, .bool a1.fGen, sl 5 TIns.cells a1.fCode]), .row 0 1 l19.length 3 (row cI l19)]) ?_ ([] : List Int) 0 0 o16 h rfl
 intro F23 ih22 l19 y20 y21 o41 h hr42
 subst hr42
 refine LoopAt.round ?_
 refine .direct ?_
 refine .direct ?_
 refine splitB.mk (fun hb24 => ?_) (fun hb24 => ?_)
 replace h := T_dec hb24 h
 refine .direct ?_
 refine .direct ?_
 refine ⟨row cI ([y20] : List Int), row_lit cI ([y20] : List Int) rfl (cll_refl rfl), ?_⟩
 obtain ⟨l25, hx26, h⟩ := bind_some h
 refine ⟨rfl, rfl, lapp_bd hx26, l25.length, row cI l25, lapp_len hx26, lapp_row hx26 shows_all (src_own shows_all), ?_⟩
 obtain ⟨o28, ho29, hk30⟩ := bind_some h
 replace h := ho29
 refine .cut (fun σ η => ∃ b27, b27 = o28 ∧ σ = [(2, sl 1 cI a2), (3, .optr 0 0 0 0), (4, .optr 1 0 0 0), (7, sl 1 cI v11), (9, .own 2 0 0 l25.length), (10, .int .i64 y20), (11, .int .i64 y21), (63, .bool b27)] ∧ η = [.row 0 6 1 33 (fun _ => [.str a0.fName, sl 2 TParam.cells a0.fParams, sl 2 TParam.cells a0.fUses, sl 1 cS a0.fSlots, .bool a0.fGen, sl 5 TIns.cells a0.fCode]), .row 0 6 1 33 (fun _ => [.str a1.fName, sl 2 TParam.cells a1.fParams, sl 2 TParam.cells a1.fUses, sl 1 cS a1.fSlots, .bool a1.fGen, sl 5 TIns.cells a1.fCode]), .row 0 1 l25.length 3 (row cI l25)]) ?_ ?_
 refine splitB.mk (fun hb31 => ?_) (fun hb31 => ?_)
 replace h := T_dec hb31 h
 refine splitB_t ?_
 refine splitB_t ?_
 obtain ⟨x32, hx33, h⟩ := bind_some h
 refine ⟨idx_bd hx33, _, (idx_row hx33).trans rfl, ?_⟩
 refine splitB_t ?_
 refine splitB_t ?_
 refine splitB_t ?_
 refine splitB_t ?_
 exact ⟨[(2, sl 1 cI a2), (3, .optr 0 0 0 0), (4, .optr 1 0 0 0), (7, sl 1 cI v11), (9, .own 2 0 0 l25.length), (10, .int .i64 y20), (11, .int .i64 y21), (63, .bool (x32 == y21))], [.row 0 6 1 33 (fun _ => [.str a0.fName, sl 2 TParam.cells a0.fParams, sl 2 TParam.cells a0.fUses, sl 1 cS a0.fSlots, .bool a0.fGen, sl 5 TIns.cells a0.fCode]), .row 0 6 1 33 (fun _ => [.str a1.fName, sl 2 TParam.cells a1.fParams, sl 2 TParam.cells a1.fUses, sl 1 cS a1.fSlots, .bool a1.fGen, sl 5 TIns.cells a1.fCode]), .row 0 1 l25.length 3 (row cI l25)], ⟨[0, 1, 2], by decide, (show 0 ≤ 3 by decide), ⟨.slc_eq rfl (fun _ _ => rfl), .optr_eq rfl ⟨_, _, _, _, rfl⟩ ⟨_, _, _, _, rfl, Nat.zero_lt_one⟩ rfl rfl, .optr_eq rfl ⟨_, _, _, _, rfl⟩ ⟨_, _, _, _, rfl, Nat.zero_lt_one⟩ rfl rfl, .slc_eq rfl (fun _ _ => rfl), .own_eq rfl ⟨_, _, _, _, rfl⟩ ⟨_, _, _, _, rfl, Nat.le_of_eq (Nat.zero_add _)⟩ rfl rfl, .int_eq rfl, .int_eq rfl, .bool_eq rfl, trivial⟩, ⟨⟨fun h0 => absurd (show 0 < 0 from h0) (by decide), rfl, .inl rfl, rfl, fun _ _ => ⟨.str_eq rfl, .slc_eq rfl (fun _ _ => rfl), .slc_eq rfl (fun _ _ => rfl), .slc_eq rfl (fun _ _ => rfl), .bool_eq rfl, .slc_eq rfl (fun _ _ => rfl), trivial⟩⟩, ⟨fun h0 => absurd (show 1 < 0 from h0) (by decide), rfl, .inl rfl, rfl, fun _ _ => ⟨.str_eq rfl, .slc_eq rfl (fun _ _ => rfl), .slc_eq rfl (fun _ _ => rfl), .slc_eq rfl (fun _ _ => rfl), .bool_eq rfl, .slc_eq rfl (fun _ _ => rfl), trivial⟩⟩, ⟨fun h0 => absurd (show 2 < 0 from h0) (by decide), rfl, .inl rfl, rfl, fz_row cI_pure⟩, trivial⟩⟩, (x32 == y21), Option.some.inj h, rfl, rfl⟩
 replace h := F_dec hb31 h
 refine splitB_f ?_
 refine splitB_f ?_
 refine splitB_f ?_
 refine splitB_f ?_
 refine splitB_f ?_
 refine splitB_f ?_
 exact ⟨[(2, sl 1 cI a2), (3, .optr 0 0 0 0), (4, .optr 1 0 0 0), (7, sl 1 cI v11), (9, .own 2 0 0 l25.length), (10, .int .i64 y20), (11, .int .i64 y21), (63, .bool false)], [.row 0 6 1 33 (fun _ => [.str a0.fName, sl 2 TParam.cells a0.fParams, sl 2 TParam.cells a0.fUses, sl 1 cS a0.fSlots, .bool a0.fGen, sl 5 TIns.cells a0.fCode]), .row 0 6 1 33 (fun _ => [.str a1.fName, sl 2 TParam.cells a1.fParams, sl 2 TParam.cells a1.fUses, sl 1 cS a1.fSlots, .bool a1.fGen, sl 5 TIns.cells a1.fCode]), .row 0 1 l25.length 3 (row cI l25)], ⟨[0, 1, 2], by decide, (show 0 ≤ 3 by decide), ⟨.slc_eq rfl (fun _ _ => rfl), .optr_eq rfl ⟨_, _, _, _, rfl⟩ ⟨_, _, _, _, rfl, Nat.zero_lt_one⟩ rfl rfl, .optr_eq rfl ⟨_, _, _, _, rfl⟩ ⟨_, _, _, _, rfl, Nat.zero_lt_one⟩ rfl rfl, .slc_eq rfl (fun _ _ => rfl), .own_eq rfl ⟨_, _, _, _, rfl⟩ ⟨_, _, _, _, rfl, Nat.le_of_eq (Nat.zero_add _)⟩ rfl rfl, .int_eq rfl, .int_eq rfl, .bool_eq rfl, trivial⟩, ⟨⟨fun h0 => absurd (show 0 < 0 from h0) (by decide), rfl, .inl rfl, rfl, fun _ _ => ⟨.str_eq rfl, .slc_eq rfl (fun _ _ => rfl), .slc_eq rfl (fun _ _ => rfl), .slc_eq rfl (fun _ _ => rfl), .bool_eq rfl, .slc_eq rfl (fun _ _ => rfl), trivial⟩⟩, ⟨fun h0 => absurd (show 1 < 0 from h0) (by decide), rfl, .inl rfl, rfl, fun _ _ => ⟨.str_eq rfl, .slc_eq rfl (fun _ _ => rfl), .slc_eq rfl (fun _ _ => rfl), .slc_eq rfl (fun _ _ => rfl), .bool_eq rfl, .slc_eq rfl (fun _ _ => rfl), trivial⟩⟩, ⟨fun h0 => absurd (show 2 < 0 from h0) (by decide), rfl, .inl rfl, rfl, fz_row cI_pure⟩, trivial⟩⟩, false, Option.some.inj h, rfl, rfl⟩
 rintro _ _ ⟨b27, rfl, rfl, rfl⟩
 replace h := hk30
 refine splitB.mk (fun hb34 => ?_) (fun hb34 => ?_)
 replace h := T_var hb34 h
 exact ⟨[(2, sl 1 cI a2), (3, .optr 0 0 0 0), (4, .optr 1 0 0 0), (7, sl 1 cI v11), (9, .own 2 0 0 l25.length), (10, .int .i64 (W64 (y20 + 1))), (11, .int .i64 (W64 (y21 + 1)))], [.row 0 6 1 33 (fun _ => [.str a0.fName, sl 2 TParam.cells a0.fParams, sl 2 TParam.cells a0.fUses, sl 1 cS a0.fSlots, .bool a0.fGen, sl 5 TIns.cells a0.fCode]), .row 0 6 1 33 (fun _ => [.str a1.fName, sl 2 TParam.cells a1.fParams, sl 2 TParam.cells a1.fUses, sl 1 cS a1.fSlots, .bool a1.fGen, sl 5 TIns.cells a1.fCode]), .row 0 1 l25.length 3 (row cI l25)], ⟨[0, 1, 2], by decide, (show 0 ≤ 3 by decide), ⟨.slc_eq rfl (fun _ _ => rfl), .optr_eq rfl ⟨_, _, _, _, rfl⟩ ⟨_, _, _, _, rfl, Nat.zero_lt_one⟩ rfl rfl, .optr_eq rfl ⟨_, _, _, _, rfl⟩ ⟨_, _, _, _, rfl, Nat.zero_lt_one⟩ rfl rfl, .slc_eq rfl (fun _ _ => rfl), .own_eq rfl ⟨_, _, _, _, rfl⟩ ⟨_, _, _, _, rfl, Nat.le_of_eq (Nat.zero_add _)⟩ rfl rfl, .int_eq rfl, .int_eq rfl, trivial⟩, ⟨⟨fun h0 => absurd (show 0 < 0 from h0) (by decide), rfl, .inl rfl, rfl, fun _ _ => ⟨.str_eq rfl, .slc_eq rfl (fun _ _ => rfl), .slc_eq rfl (fun _ _ => rfl), .slc_eq rfl (fun _ _ => rfl), .bool_eq rfl, .slc_eq rfl (fun _ _ => rfl), trivial⟩⟩, ⟨fun h0 => absurd (show 1 < 0 from h0) (by decide), rfl, .inl rfl, rfl, fun _ _ => ⟨.str_eq rfl, .slc_eq rfl (fun _ _ => rfl), .slc_eq rfl (fun _ _ => rfl), .slc_eq rfl (fun _ _ => rfl), .bool_eq rfl, .slc_eq rfl (fun _ _ => rfl), trivial⟩⟩, ⟨fun h0 => absurd (show 2 < 0 from h0) (by decide), rfl, .inl rfl, rfl, fz_row cI_pure⟩, trivial⟩⟩, ih22 _ _ _ _ h rfl⟩
 replace h := F_var hb34 h
 refine .direct ?_
 obtain ⟨x35, hx36, h⟩ := bind_some h
 refine ⟨idx_bd hx36, _, (idx_row hx36).trans rfl, ?_⟩
 refine splitB.mk (fun hb37 => ?_) (fun hb37 => ?_)
 replace h := T_dec hb37 h
 refine ⟨rfl, ?_⟩
 refine splitB_t ?_
 refine ⟨rfl, _, rfl, ?_⟩
 refine splitB_t ?_
 refine splitB_t ?_
 obtain ⟨x38, hx39, h⟩ := bind_some h
 refine ⟨idx_bd hx39, _, (idx_row hx39).trans (TIns.cells_eq x38), ?_⟩
 refine splitB_t ?_
 refine splitB_t ?_
 refine splitB_t ?_
 refine splitB_t ?_
 refine splitB.mk (fun hb40 => ?_) (fun hb40 => ?_)
 replace h := T_bne hb40 h
 refine .direct ?_
 obtain rfl := Option.some.inj h
 replace h := hk18
 obtain rfl := Option.some.inj h
 exact ⟨[], .bool false, [], by decide, (show 0 ≤ 0 by decide), .bool_eq rfl, trivial, rfl, rfl⟩
 replace h := F_bne hb40 h
 exact ⟨[(2, sl 1 cI a2), (3, .optr 0 0 0 0), (4, .optr 1 0 0 0), (7, sl 1 cI v11), (9, .own 2 0 0 l25.length), (10, .int .i64 y20), (11, .int .i64 (W64 (y21 + 1)))], [.row 0 6 1 33 (fun _ => [.str a0.fName, sl 2 TParam.cells a0.fParams, sl 2 TParam.cells a0.fUses, sl 1 cS a0.fSlots, .bool a0.fGen, sl 5 TIns.cells a0.fCode]), .row 0 6 1 33 (fun _ => [.str a1.fName, sl 2 TParam.cells a1.fParams, sl 2 TParam.cells a1.fUses, sl 1 cS a1.fSlots, .bool a1.fGen, sl 5 TIns.cells a1.fCode]), .row 0 1 l25.length 3 (row cI l25)], ⟨[0, 1, 2], by decide, (show 0 ≤ 3 by decide), ⟨.slc_eq rfl (fun _ _ => rfl), .optr_eq rfl ⟨_, _, _, _, rfl⟩ ⟨_, _, _, _, rfl, Nat.zero_lt_one⟩ rfl rfl, .optr_eq rfl ⟨_, _, _, _, rfl⟩ ⟨_, _, _, _, rfl, Nat.zero_lt_one⟩ rfl rfl, .slc_eq rfl (fun _ _ => rfl), .own_eq rfl ⟨_, _, _, _, rfl⟩ ⟨_, _, _, _, rfl, Nat.le_of_eq (Nat.zero_add _)⟩ rfl rfl, .int_eq rfl, .int_eq rfl, trivial⟩, ⟨⟨fun h0 => absurd (show 0 < 0 from h0) (by decide), rfl, .inl rfl, rfl, fun _ _ => ⟨.str_eq rfl, .slc_eq rfl (fun _ _ => rfl), .slc_eq rfl (fun _ _ => rfl), .slc_eq rfl (fun _ _ => rfl), .bool_eq rfl, .slc_eq rfl (fun _ _ => rfl), trivial⟩⟩, ⟨fun h0 => absurd (show 1 < 0 from h0) (by decide), rfl, .inl rfl, rfl, fun _ _ => ⟨.str_eq rfl, .slc_eq rfl (fun _ _ => rfl), .slc_eq rfl (fun _ _ => rfl), .slc_eq rfl (fun _ _ => rfl), .bool_eq rfl, .slc_eq rfl (fun _ _ => rfl), trivial⟩⟩, ⟨fun h0 => absurd (show 2 < 0 from h0) (by decide), rfl, .inl rfl, rfl, fz_row cI_pure⟩, trivial⟩⟩, ih22 _ _ _ _ h rfl⟩
 replace h := F_dec hb37 h
 refine splitB_f ?_
 refine splitB_f ?_
 refine splitB_f ?_
 refine splitB_f ?_
 refine splitB_f ?_
 refine splitB_f ?_
 refine splitB_f ?_
 refine splitB_f ?_
 exact ⟨[(2, sl 1 cI a2), (3, .optr 0 0 0 0), (4, .optr 1 0 0 0), (7, sl 1 cI v11), (9, .own 2 0 0 l25.length), (10, .int .i64 y20), (11, .int .i64 (W64 (y21 + 1)))], [.row 0 6 1 33 (fun _ => [.str a0.fName, sl 2 TParam.cells a0.fParams, sl 2 TParam.cells a0.fUses, sl 1 cS a0.fSlots, .bool a0.fGen, sl 5 TIns.cells a0.fCode]), .row 0 6 1 33 (fun _ => [.str a1.fName, sl 2 TParam.cells a1.fParams, sl 2 TParam.cells a1.fUses, sl 1 cS a1.fSlots, .bool a1.fGen, sl 5 TIns.cells a1.fCode]), .row 0 1 l25.length 3 (row cI l25)], ⟨[0, 1, 2], by decide, (show 0 ≤ 3 by decide), ⟨.slc_eq rfl (fun _ _ => rfl), .optr_eq rfl ⟨_, _, _, _, rfl⟩ ⟨_, _, _, _, rfl, Nat.zero_lt_one⟩ rfl rfl, .optr_eq rfl ⟨_, _, _, _, rfl⟩ ⟨_, _, _, _, rfl, Nat.zero_lt_one⟩ rfl rfl, .slc_eq rfl (fun _ _ => rfl), .own_eq rfl ⟨_, _, _, _, rfl⟩ ⟨_, _, _, _, rfl, Nat.le_of_eq (Nat.zero_add _)⟩ rfl rfl, .int_eq rfl, .int_eq rfl, trivial⟩, ⟨⟨fun h0 => absurd (show 0 < 0 from h0) (by decide), rfl, .inl rfl, rfl, fun _ _ => ⟨.str_eq rfl, .slc_eq rfl (fun _ _ => rfl), .slc_eq rfl (fun _ _ => rfl), .slc_eq rfl (fun _ _ => rfl), .bool_eq rfl, .slc_eq rfl (fun _ _ => rfl), trivial⟩⟩, ⟨fun h0 => absurd (show 1 < 0 from h0) (by decide), rfl, .inl rfl, rfl, fun _ _ => ⟨.str_eq rfl, .slc_eq rfl (fun _ _ => rfl), .slc_eq rfl (fun _ _ => rfl), .slc_eq rfl (fun _ _ => rfl), .bool_eq rfl, .slc_eq rfl (fun _ _ => rfl), trivial⟩⟩, ⟨fun h0 => absurd (show 2 < 0 from h0) (by decide), rfl, .inl rfl, rfl, fz_row cI_pure⟩, trivial⟩⟩, ih22 _ _ _ _ h rfl⟩
 replace h := F_dec hb24 h
 exact ⟨[(2, sl 1 cI a2), (3, .optr 0 0 0 0), (4, .optr 1 0 0 0), (9, .own 2 0 0 l19.length), (10, .int .i64 y20)], [.row 0 6 1 33 (fun _ => [.str a0.fName, sl 2 TParam.cells a0.fParams, sl 2 TParam.cells a0.fUses, sl 1 cS a0.fSlots, .bool a0.fGen, sl 5 TIns.cells a0.fCode]), .row 0 6 1 33 (fun _ => [.str a1.fName, sl 2 TParam.cells a1.fParams, sl 2 TParam.cells a1.fUses, sl 1 cS a1.fSlots, .bool a1.fGen, sl 5 TIns.cells a1.fCode]), .row 0 1 l19.length 3 (row cI l19)], ⟨[0, 1, 2], by decide, (show 0 ≤ 3 by decide), ⟨.slc_eq rfl (fun _ _ => rfl), .optr_eq rfl ⟨_, _, _, _, rfl⟩ ⟨_, _, _, _, rfl, Nat.zero_lt_one⟩ rfl rfl, .optr_eq rfl ⟨_, _, _, _, rfl⟩ ⟨_, _, _, _, rfl, Nat.zero_lt_one⟩ rfl rfl, .own_eq rfl ⟨_, _, _, _, rfl⟩ ⟨_, _, _, _, rfl, Nat.le_of_eq (Nat.zero_add _)⟩ rfl rfl, .int_eq rfl, trivial⟩, ⟨⟨fun h0 => absurd (show 0 < 0 from h0) (by decide), rfl, .inl rfl, rfl, fun _ _ => ⟨.str_eq rfl, .slc_eq rfl (fun _ _ => rfl), .slc_eq rfl (fun _ _ => rfl), .slc_eq rfl (fun _ _ => rfl), .bool_eq rfl, .slc_eq rfl (fun _ _ => rfl), trivial⟩⟩, ⟨fun h0 => absurd (show 1 < 0 from h0) (by decide), rfl, .inl rfl, rfl, fun _ _ => ⟨.str_eq rfl, .slc_eq rfl (fun _ _ => rfl), .slc_eq rfl (fun _ _ => rfl), .slc_eq rfl (fun _ _ => rfl), .bool_eq rfl, .slc_eq rfl (fun _ _ => rfl), trivial⟩⟩, ⟨fun h0 => absurd (show 2 < 0 from h0) (by decide), rfl, .inl rfl, rfl, fz_row cI_pure⟩, trivial⟩⟩, l19, y20, Option.some.inj h, rfl, rfl⟩
 rintro _ _ ⟨l14, y15, rfl, rfl, rfl⟩
 replace h := hk18
 refine .direct ?_
 refine .direct ?_
 refine splitB.mk (fun hb43 => ?_) (fun hb43 => ?_)
 replace h := T_bne hb43 h
 refine .direct ?_
 obtain rfl := Option.some.inj h
 exact ⟨[], .bool false, [], by decide, (show 0 ≤ 0 by decide), .bool_eq rfl, trivial, rfl, rfl⟩
 replace h := F_bne hb43 h
 obtain ⟨o44, ho45, hk46⟩ := bind_some h
 replace h := ho45
 refine .cut (fun σ η => .inl () = o44 ∧ σ = [] ∧ η = []) ?_ ?_
 refine .direct ?_
 refine LoopAt.enter [(2, sl 1 cI a2), (3, .optr 0 0 0 0), (4, .optr 1 0 0 0), (9, .own 2 0 0 l14.length), (12, .int .i64 0)] [.row 0 6 1 33 (fun _ => [.str a0.fName, sl 2 TParam.cells a0.fParams, sl 2 TParam.cells a0.fUses, sl 1 cS a0.fSlots, .bool a0.fGen, sl 5 TIns.cells a0.fCode]), .row 0 6 1 33 (fun _ => [.str a1.fName, sl 2 TParam.cells a1.fParams, sl 2 TParam.cells a1.fUses, sl 1 cS a1.fSlots, .bool a1.fGen, sl 5 TIns.cells a1.fCode]), .row 0 1 l14.length 3 (row cI l14)] ⟨[0, 1, 2], by decide, (show 0 ≤ 3 by decide), ⟨.slc_eq rfl (fun _ _ => rfl), .optr_eq rfl ⟨_, _, _, _, rfl⟩ ⟨_, _, _, _, rfl, Nat.zero_lt_one⟩ rfl rfl, .optr_eq rfl ⟨_, _, _, _, rfl⟩ ⟨_, _, _, _, rfl, Nat.zero_lt_one⟩ rfl rfl, .own_eq rfl ⟨_, _, _, _, rfl⟩ ⟨_, _, _, _, rfl, Nat.le_of_eq (Nat.zero_add _)⟩ rfl rfl, .int_eq rfl, trivial⟩, ⟨⟨fun h0 => absurd (show 0 < 0 from h0) (by decide), rfl, .inl rfl, rfl, fun _ _ => ⟨.str_eq rfl, .slc_eq rfl (fun _ _ => rfl), .slc_eq rfl (fun _ _ => rfl), .slc_eq rfl (fun _ _ => rfl), .bool_eq rfl, .slc_eq rfl (fun _ _ => rfl), trivial⟩⟩, ⟨fun h0 => absurd (show 1 < 0 from h0) (by decide), rfl, .inl rfl, rfl, fun _ _ => ⟨.str_eq rfl, .slc_eq rfl (fun _ _ => rfl), .slc_eq rfl (fun _ _ => rfl), .slc_eq rfl (fun _ _ => rfl), .bool_eq rfl, .slc_eq rfl (fun _ _ => rfl), trivial⟩⟩, ⟨fun h0 => absurd (show 2 < 0 from h0) (by decide), rfl, .inl rfl, rfl, fz_row cI_pure⟩, trivial⟩⟩ ?_
 refine m_s_CheckDrop_L4.partial_correctness a0 a1 a2 l14 (motive := fun y47 o68 => o44 = o68 → LoopAt _ _ [(2, sl 1 cI a2), (3, .optr 0 0 0 0), (4, .optr 1 0 0 0), (9, .own 2 0 0 l14.length), (12, .int .i64 y47)] [.row 0 6 1 33 (fun _ => [.str a0.fName, sl 2 TParam.cells a0.fParams, sl 2 TParam.cells a0.fUses, sl 1 cS a0.fSlots, .bool a0.fGen, sl 5 TIns.cells a0.fCode]), .row 0 6 1 33 (fun _ => [.str a1.fName, sl 2 TParam.cells a1.fParams, sl 2 TParam.cells a1.fUses, sl 1 cS a1.fSlots, .bool a1.fGen, sl 5 TIns.cells a1.fCode]), .row 0 1 l14.length 3 (row cI l14)]) ?_ 0 o44 h rfl
 intro F49 ih48 y47 o68 h hr69
 subst hr69
 refine LoopAt.round ?_
 refine .direct ?_
 refine .direct ?_
 refine splitB.mk (fun hb50 => ?_) (fun hb50 => ?_)
 replace h := T_dec hb50 h
 refine .direct ?_
 refine .direct ?_
 refine .float [(0, true), (1, true), (2, true), (3, true), (4, true), (5, true), (6, true), (7, true), (8, false), (9, false)] (by kernel_rfl) ?_
 refine ⟨rfl, ?_⟩
 refine ⟨rfl, _, rfl, ?_⟩
 obtain ⟨x51, hx52, h⟩ := bind_some h
 refine ⟨idx_bd hx52, _, (idx_row hx52).trans rfl, ?_⟩
 obtain ⟨x53, hx54, h⟩ := bind_some h
 refine ⟨idx_bd hx54, _, (idx_row hx54).trans (TIns.cells_eq x53), ?_⟩
 refine ⟨rfl, ?_⟩
 refine ⟨rfl, ?_⟩
 refine ⟨rfl, _, fun _ => [.int .i64 x53.fOp, .int .i64 x53.fA, .int .i64 x53.fB, .str x53.fS, .str x53.fT], rfl, one_set rfl, ?_⟩
 refine .direct ?_
 refine .direct ?_
 refine ⟨rfl, ?_⟩
 refine ⟨rfl, _, rfl, ?_⟩
 obtain ⟨v55, hv56, h⟩ := bind_some h
 refine ⟨_, ACall.pure0 (ok_s_HasTarget hv56) _ rfl (fun _ => rfl), ?_⟩
 rintro _ _ ⟨rfl, rfl⟩
 refine splitB.mk (fun hb57 => ?_) (fun hb57 => ?_)
 replace h := T_var hb57 h
 refine ⟨rfl, ?_⟩
 refine ⟨rfl, _, rfl, ?_⟩
 obtain ⟨x58, hx59, h⟩ := bind_some h
 refine ⟨rfl, idx_bd hx59, _, Nat.zero_add _, ?_⟩
 refine ⟨rfl, _, ((idx_row hx59).trans rfl), ?_⟩
 refine ⟨rfl, ?_⟩
 refine ⟨rfl, _, fun _ => [.int .i64 x53.fOp, .int .i64 x58, .int .i64 x53.fB, .str x53.fS, .str x53.fT], rfl, one_set rfl, ?_⟩
 refine .direct ?_
 refine ⟨rfl, _, rfl, ?_⟩
 refine ⟨rfl, ?_⟩
 refine ⟨rfl, _, rfl, ?_⟩
 obtain ⟨x60, hx61, h⟩ := bind_some h
 refine ⟨idx_bd hx61, _, (idx_row hx61).trans (TIns.cells_eq x60), ?_⟩
 refine ⟨_, TIns.eq_cells (TIns.mk x53.fOp x58 x53.fB x53.fS x53.fT) x60, ?_⟩
 refine splitB.mk (fun hb62 => ?_) (fun hb62 => ?_)
 have hb63 := not_F hb62
 replace h := F_dec hb63 h
 refine .direct ?_
 obtain rfl := Option.some.inj h
 replace h := hk46
 obtain rfl := Option.some.inj h
 exact ⟨[], .bool false, [], by decide, (show 0 ≤ 0 by decide), .bool_eq rfl, trivial, rfl, rfl⟩
 have hb63 := not_T hb62
 replace h := T_dec hb63 h
 exact ⟨[(2, sl 1 cI a2), (3, .optr 0 0 0 0), (4, .optr 1 0 0 0), (9, .own 2 0 0 l14.length), (12, .int .i64 (W64 (y47 + 1)))], [.row 0 6 1 33 (fun _ => [.str a0.fName, sl 2 TParam.cells a0.fParams, sl 2 TParam.cells a0.fUses, sl 1 cS a0.fSlots, .bool a0.fGen, sl 5 TIns.cells a0.fCode]), .row 0 6 1 33 (fun _ => [.str a1.fName, sl 2 TParam.cells a1.fParams, sl 2 TParam.cells a1.fUses, sl 1 cS a1.fSlots, .bool a1.fGen, sl 5 TIns.cells a1.fCode]), .row 0 1 l14.length 3 (row cI l14)], ⟨[0, 1, 2], by decide, (show 0 ≤ 3 by decide), ⟨.slc_eq rfl (fun _ _ => rfl), .optr_eq rfl ⟨_, _, _, _, rfl⟩ ⟨_, _, _, _, rfl, Nat.zero_lt_one⟩ rfl rfl, .optr_eq rfl ⟨_, _, _, _, rfl⟩ ⟨_, _, _, _, rfl, Nat.zero_lt_one⟩ rfl rfl, .own_eq rfl ⟨_, _, _, _, rfl⟩ ⟨_, _, _, _, rfl, Nat.le_of_eq (Nat.zero_add _)⟩ rfl rfl, .int_eq rfl, trivial⟩, ⟨⟨fun h0 => absurd (show 0 < 0 from h0) (by decide), rfl, .inl rfl, rfl, fun _ _ => ⟨.str_eq rfl, .slc_eq rfl (fun _ _ => rfl), .slc_eq rfl (fun _ _ => rfl), .slc_eq rfl (fun _ _ => rfl), .bool_eq rfl, .slc_eq rfl (fun _ _ => rfl), trivial⟩⟩, ⟨fun h0 => absurd (show 1 < 0 from h0) (by decide), rfl, .inl rfl, rfl, fun _ _ => ⟨.str_eq rfl, .slc_eq rfl (fun _ _ => rfl), .slc_eq rfl (fun _ _ => rfl), .slc_eq rfl (fun _ _ => rfl), .bool_eq rfl, .slc_eq rfl (fun _ _ => rfl), trivial⟩⟩, ⟨fun h0 => absurd (show 2 < 0 from h0) (by decide), rfl, .inl rfl, rfl, fz_row cI_pure⟩, trivial⟩⟩, ih48 _ _ h rfl⟩
 replace h := F_var hb57 h
 refine .direct ?_
 refine ⟨rfl, _, rfl, ?_⟩
 refine ⟨rfl, ?_⟩
 refine ⟨rfl, _, rfl, ?_⟩
 obtain ⟨x64, hx65, h⟩ := bind_some h
 refine ⟨idx_bd hx65, _, (idx_row hx65).trans (TIns.cells_eq x64), ?_⟩
 refine ⟨_, TIns.eq_cells x53 x64, ?_⟩
 refine splitB.mk (fun hb66 => ?_) (fun hb66 => ?_)
 have hb67 := not_F hb66
 replace h := F_dec hb67 h
 refine .direct ?_
 obtain rfl := Option.some.inj h
 replace h := hk46
 obtain rfl := Option.some.inj h
 exact ⟨[], .bool false, [], by decide, (show 0 ≤ 0 by decide), .bool_eq rfl, trivial, rfl, rfl⟩
 have hb67 := not_T hb66
 replace h := T_dec hb67 h
 exact ⟨[(2, sl 1 cI a2), (3, .optr 0 0 0 0), (4, .optr 1 0 0 0), (9, .own 2 0 0 l14.length), (12, .int .i64 (W64 (y47 + 1)))], [.row 0 6 1 33 (fun _ => [.str a0.fName, sl 2 TParam.cells a0.fParams, sl 2 TParam.cells a0.fUses, sl 1 cS a0.fSlots, .bool a0.fGen, sl 5 TIns.cells a0.fCode]), .row 0 6 1 33 (fun _ => [.str a1.fName, sl 2 TParam.cells a1.fParams, sl 2 TParam.cells a1.fUses, sl 1 cS a1.fSlots, .bool a1.fGen, sl 5 TIns.cells a1.fCode]), .row 0 1 l14.length 3 (row cI l14)], ⟨[0, 1, 2], by decide, (show 0 ≤ 3 by decide), ⟨.slc_eq rfl (fun _ _ => rfl), .optr_eq rfl ⟨_, _, _, _, rfl⟩ ⟨_, _, _, _, rfl, Nat.zero_lt_one⟩ rfl rfl, .optr_eq rfl ⟨_, _, _, _, rfl⟩ ⟨_, _, _, _, rfl, Nat.zero_lt_one⟩ rfl rfl, .own_eq rfl ⟨_, _, _, _, rfl⟩ ⟨_, _, _, _, rfl, Nat.le_of_eq (Nat.zero_add _)⟩ rfl rfl, .int_eq rfl, trivial⟩, ⟨⟨fun h0 => absurd (show 0 < 0 from h0) (by decide), rfl, .inl rfl, rfl, fun _ _ => ⟨.str_eq rfl, .slc_eq rfl (fun _ _ => rfl), .slc_eq rfl (fun _ _ => rfl), .slc_eq rfl (fun _ _ => rfl), .bool_eq rfl, .slc_eq rfl (fun _ _ => rfl), trivial⟩⟩, ⟨fun h0 => absurd (show 1 < 0 from h0) (by decide), rfl, .inl rfl, rfl, fun _ _ => ⟨.str_eq rfl, .slc_eq rfl (fun _ _ => rfl), .slc_eq rfl (fun _ _ => rfl), .slc_eq rfl (fun _ _ => rfl), .bool_eq rfl, .slc_eq rfl (fun _ _ => rfl), trivial⟩⟩, ⟨fun h0 => absurd (show 2 < 0 from h0) (by decide), rfl, .inl rfl, rfl, fz_row cI_pure⟩, trivial⟩⟩, ih48 _ _ h rfl⟩
 replace h := F_dec hb50 h
 exact ⟨[], [], ⟨[], by decide, (show 0 ≤ 0 by decide), trivial, trivial⟩, Option.some.inj h, rfl, rfl⟩
 rintro _ _ ⟨rfl, rfl, rfl⟩
 replace h := hk46
 refine .direct ?_
 obtain rfl := Option.some.inj h
 exact ⟨[], .bool true, [], by decide, (show 0 ≤ 0 by decide), .bool_eq rfl, trivial, rfl, rfl⟩
def m_s_CheckThread_L2 (a0 : TFunc) (a1 : TFunc) (y14 : Int) : Option ((Unit) ⊕ Bool) :=
 (if y14 < (a0.fCode.length : Int) then
 idx a1.fCode y14 >>= fun x18 =>
 idx a0.fCode y14 >>= fun x20 =>
 (if x18.fOp = x20.fOp then
 m_s_HasTarget x18.fOp >>= fun v23 =>
 (if v23 = true then
 idx a0.fCode y14 >>= fun x26 =>
 m_s_l31Walk a0.fCode x26.fA x18.fA >>= fun (v28, v29) =>
 (if v29 = true then
 idx a0.fCode y14 >>= fun x32 =>
 idx a0.fCode y14 >>= fun x34 =>
 (if (TIns.mk x18.fOp x32.fA x18.fB x18.fS x18.fT) = x34 then
 m_s_CheckThread_L2 a0 a1 (W64 (y14 + 1))
 else
 some (.inr false))
 else
 some (.inr false))
 else
 idx a0.fCode y14 >>= fun x39 =>
 (if x18 = x39 then
 m_s_CheckThread_L2 a0 a1 (W64 (y14 + 1))
 else
 some (.inr false)))
 else
 some (.inr false))
 else
 some (.inl ()))
partial_fixpoint
def m_s_CheckThread (a0 : TFunc) (a1 : TFunc) : Option (Bool) :=
 m_s_IsFunc a0 >>= fun v1 =>
 (if v1 = true then
 m_s_IsFunc a1 >>= fun v4 =>
 (if v4 = true then
 m_s_l30Same a0 a1 >>= fun v7 =>
 (if v7 = true then
 (if (a0.fCode.length : Int) = (a1.fCode.length : Int) then
 ((
 m_s_CheckThread_L2 a0 a1 0
 : Option ((Unit) ⊕ Bool)) >>= fun o11 => match o11 with
 | .inr r => some r
 | .inl _ =>
 some true
 )
 else
 some false)
 else
 some false)
 else
 some false)
 else
 some false)
theorem ok_s_CheckThread {a0 : TFunc} {a1 : TFunc} {r : Bool} (h : m_s_CheckThread a0 a1 = some r) : ACall Try.prog 14 [.agg [.str a0.fName, sl 2 TParam.cells a0.fParams, sl 2 TParam.cells a0.fUses, sl 1 cS a0.fSlots, .bool a0.fGen, sl 5 TIns.cells a0.fCode], .agg [.str a1.fName, sl 2 TParam.cells a1.fParams, sl 2 TParam.cells a1.fUses, sl 1 cS a1.fSlots, .bool a1.fGen, sl 5 TIns.cells a1.fCode]] [] (fun res h => res = .bool r ∧ h = []) := by
 refine ACall.of_vc tabT_ok mixed Try.func14 rfl (by kernel_rfl) _ _ _ rfl (by kernel_rfl) ?_
 unfold m_s_CheckThread at h
 refine .direct ?_
 refine .direct ?_
 refine .direct ?_
 refine ⟨rfl, _, rfl, ?_⟩
 obtain ⟨v1, hv2, h⟩ := bind_some h
 refine ⟨_, ACall.pure0 (ok_s_IsFunc hv2) _ rfl (fun _ => rfl), ?_⟩
 rintro _ _ ⟨rfl, rfl⟩
 refine splitB.mk (fun hb3 => ?_) (fun hb3 => ?_)
 have hb47 := not_F hb3
 replace h := F_var hb47 h
 refine splitB_t ?_
 refine splitB_t ?_
 refine splitB_t ?_
 refine splitB_t ?_
 refine splitB_t ?_
 refine splitB_t ?_
 refine splitB_t ?_
 refine splitB_t ?_
 refine splitB_t ?_
 refine splitB_t ?_
 refine splitB_t ?_
 refine splitB_t ?_
 refine splitB_t ?_
 refine splitB_t ?_
 refine splitB_t ?_
 refine splitB_t ?_
 refine splitB_t ?_
 refine .direct ?_
 obtain rfl := Option.some.inj h
 exact ⟨[], .bool false, [], by decide, (show 0 ≤ 0 by decide), .bool_eq rfl, trivial, rfl, rfl⟩
 have hb47 := not_T hb3
 replace h := T_var hb47 h
 refine ⟨rfl, _, rfl, ?_⟩
 refine splitB_f ?_
 obtain ⟨v4, hv5, h⟩ := bind_some h
 refine ⟨_, ACall.pure0 (ok_s_IsFunc hv5) _ rfl (fun _ => rfl), ?_⟩
 rintro _ _ ⟨rfl, rfl⟩
 refine splitB_f ?_
 refine splitB_f ?_
 refine splitB.mk (fun hb6 => ?_) (fun hb6 => ?_)
 have hb46 := not_F hb6
 replace h := F_var hb46 h
 refine splitB_t ?_
 refine splitB_t ?_
 refine splitB_t ?_
 refine splitB_t ?_
 refine splitB_t ?_
 refine splitB_t ?_
 refine splitB_t ?_
 refine splitB_t ?_
 refine splitB_t ?_
 refine splitB_t ?_
 refine splitB_t ?_
 refine splitB_t ?_
 refine splitB_t ?_
 refine .direct ?_
 obtain rfl := Option.some.inj h
 exact ⟨[], .bool false, [], by decide, (show 0 ≤ 0 by decide), .bool_eq rfl, trivial, rfl, rfl⟩
 have hb46 := not_T hb6
 replace h := T_var hb46 h
 refine ⟨rfl, _, rfl, ?_⟩
 refine splitB_f ?_
 refine ⟨rfl, _, rfl, ?_⟩
 refine splitB_f ?_
 obtain ⟨v7, hv8, h⟩ := bind_some h
 refine ⟨_, ACall.pure0 (ok_s_l30Same hv8) _ rfl (fun _ => rfl), ?_⟩
 rintro _ _ ⟨rfl, rfl⟩
 refine splitB_f ?_
 refine splitB_f ?_
 refine splitB.mk (fun hb9 => ?_) (fun hb9 => ?_)
 have hb45 := not_F hb9
 replace h := F_var hb45 h
 refine splitB_t ?_
 refine splitB_t ?_
 refine splitB_t ?_
 refine splitB_t ?_
 refine splitB_t ?_
 refine splitB_t ?_
 refine splitB_t ?_
 refine splitB_t ?_
 refine .direct ?_
 obtain rfl := Option.some.inj h
 exact ⟨[], .bool false, [], by decide, (show 0 ≤ 0 by decide), .bool_eq rfl, trivial, rfl, rfl⟩
 have hb45 := not_T hb9
 replace h := T_var hb45 h
 refine ⟨rfl, ?_⟩
 refine splitB_f ?_
 refine ⟨rfl, _, rfl, ?_⟩
 refine splitB_f ?_
 refine splitB_f ?_
 refine ⟨rfl, ?_⟩
 refine splitB_f ?_
 refine ⟨rfl, _, rfl, ?_⟩
 refine splitB_f ?_
 refine splitB_f ?_
 refine splitB_f ?_
 refine splitB.mk (fun hb10 => ?_) (fun hb10 => ?_)
 replace h := T_bne hb10 h
 refine .direct ?_
 obtain rfl := Option.some.inj h
 exact ⟨[], .bool false, [], by decide, (show 0 ≤ 0 by decide), .bool_eq rfl, trivial, rfl, rfl⟩
 replace h := F_bne hb10 h
 obtain ⟨o11, ho12, hk13⟩ := bind_some h
 replace h := ho12
 refine .cut (fun σ η => .inl () = o11 ∧ σ = [] ∧ η = []) ?_ ?_
 refine .direct ?_
 refine LoopAt.enter [(2, .optr 0 0 0 0), (3, .optr 1 0 0 0), (5, .int .i64 0)] [.row 0 6 1 33 (fun _ => [.str a0.fName, sl 2 TParam.cells a0.fParams, sl 2 TParam.cells a0.fUses, sl 1 cS a0.fSlots, .bool a0.fGen, sl 5 TIns.cells a0.fCode]), .row 0 6 1 33 (fun _ => [.str a1.fName, sl 2 TParam.cells a1.fParams, sl 2 TParam.cells a1.fUses, sl 1 cS a1.fSlots, .bool a1.fGen, sl 5 TIns.cells a1.fCode])] ⟨[0, 1], by decide, (show 0 ≤ 2 by decide), ⟨.optr_eq rfl ⟨_, _, _, _, rfl⟩ ⟨_, _, _, _, rfl, Nat.zero_lt_one⟩ rfl rfl, .optr_eq rfl ⟨_, _, _, _, rfl⟩ ⟨_, _, _, _, rfl, Nat.zero_lt_one⟩ rfl rfl, .int_eq rfl, trivial⟩, ⟨⟨fun h0 => absurd (show 0 < 0 from h0) (by decide), rfl, .inl rfl, rfl, fun _ _ => ⟨.str_eq rfl, .slc_eq rfl (fun _ _ => rfl), .slc_eq rfl (fun _ _ => rfl), .slc_eq rfl (fun _ _ => rfl), .bool_eq rfl, .slc_eq rfl (fun _ _ => rfl), trivial⟩⟩, ⟨fun h0 => absurd (show 1 < 0 from h0) (by decide), rfl, .inl rfl, rfl, fun _ _ => ⟨.str_eq rfl, .slc_eq rfl (fun _ _ => rfl), .slc_eq rfl (fun _ _ => rfl), .slc_eq rfl (fun _ _ => rfl), .bool_eq rfl, .slc_eq rfl (fun _ _ => rfl), trivial⟩⟩, trivial⟩⟩ ?_
 refine m_s_CheckThread_L2.partial_correctness a0 a1 (motive := fun y14 o43 => o11 = o43 → LoopAt _ _ [(2, .optr 0 0 0 0), (3, .optr 1 0 0 0), (5, .int .i64 y14)] [.row 0 6 1 33 (fun _ => [.str a0.fName, sl 2 TParam.cells a0.fParams, sl 2 TParam.cells a0.fUses, sl 1 cS a0.fSlots, .bool a0.fGen, sl 5 TIns.cells a0.fCode]), .row 0 6 1 33 (fun _ => [.str a1.fName, sl 2 TParam.cells a1.fParams, sl 2 TParam.cells a1.fUses, sl 1 cS a1.fSlots, .bool a1.fGen, sl 5 TIns.cells a1.fCode])]) ?_ 0 o11 h rfl
 intro F16 ih15 y14 o43 h hr44
 subst hr44
 refine LoopAt.round ?_
 refine .direct ?_
 refine .direct ?_
 refine ⟨rfl, ?_⟩
 refine ⟨rfl, _, rfl, ?_⟩
 refine splitB.mk (fun hb17 => ?_) (fun hb17 => ?_)
 replace h := T_dec hb17 h
 refine .direct ?_
 refine .direct ?_
 refine ⟨rfl, ?_⟩
 refine ⟨rfl, _, rfl, ?_⟩
 obtain ⟨x18, hx19, h⟩ := bind_some h
 refine ⟨idx_bd hx19, _, (idx_row hx19).trans (TIns.cells_eq x18), ?_⟩
 refine ⟨rfl, _, fun _ => [.int .i64 x18.fOp, .int .i64 x18.fA, .int .i64 x18.fB, .str x18.fS, .str x18.fT], rfl, one_set rfl, ?_⟩
 refine .direct ?_
 refine .direct ?_
 refine ⟨rfl, ?_⟩
 refine ⟨rfl, _, rfl, ?_⟩
 refine ⟨rfl, ?_⟩
 refine ⟨rfl, _, rfl, ?_⟩
 obtain ⟨x20, hx21, h⟩ := bind_some h
 refine ⟨idx_bd hx21, _, (idx_row hx21).trans (TIns.cells_eq x20), ?_⟩
 refine splitB.mk (fun hb22 => ?_) (fun hb22 => ?_)
 replace h := T_bne hb22 h
 refine .direct ?_
 obtain rfl := Option.some.inj h
 replace h := hk13
 obtain rfl := Option.some.inj h
 exact ⟨[], .bool false, [], by decide, (show 0 ≤ 0 by decide), .bool_eq rfl, trivial, rfl, rfl⟩
 replace h := F_bne hb22 h
 refine .direct ?_
 refine .direct ?_
 refine ⟨rfl, ?_⟩
 refine ⟨rfl, _, rfl, ?_⟩
 obtain ⟨v23, hv24, h⟩ := bind_some h
 refine ⟨_, ACall.pure0 (ok_s_HasTarget hv24) _ rfl (fun _ => rfl), ?_⟩
 rintro _ _ ⟨rfl, rfl⟩
 refine splitB.mk (fun hb25 => ?_) (fun hb25 => ?_)
 replace h := T_var hb25 h
 refine .direct ?_
 refine .float [(0, true), (1, true), (2, true), (3, true), (4, true), (5, true), (6, true), (7, true), (8, true), (9, true), (10, false), (11, true), (12, true), (13, true), (14, true), (15, true)] (by kernel_rfl) ?_
 refine ⟨rfl, ?_⟩
 refine ⟨rfl, _, rfl, ?_⟩
 refine ⟨rfl, ?_⟩
 refine ⟨rfl, _, rfl, ?_⟩
 obtain ⟨x26, hx27, h⟩ := bind_some h
 refine ⟨idx_bd hx27, _, (idx_row hx27).trans (TIns.cells_eq x26), ?_⟩
 refine ⟨rfl, ?_⟩
 refine ⟨rfl, _, rfl, ?_⟩
 obtain ⟨⟨v28, v29⟩, hv30, h⟩ := bind_some h
 refine ⟨_, ACall.pure0 (ok_s_l31Walk hv30) _ rfl (fun _ => rfl), ?_⟩
 rintro _ _ ⟨rfl, rfl⟩
 refine .direct ?_
 refine .direct ?_
 refine splitB.mk (fun hb31 => ?_) (fun hb31 => ?_)
 have hb38 := not_F hb31
 replace h := F_var hb38 h
 refine .direct ?_
 obtain rfl := Option.some.inj h
 replace h := hk13
 obtain rfl := Option.some.inj h
 exact ⟨[], .bool false, [], by decide, (show 0 ≤ 0 by decide), .bool_eq rfl, trivial, rfl, rfl⟩
 have hb38 := not_T hb31
 replace h := T_var hb38 h
 refine ⟨rfl, ?_⟩
 refine ⟨rfl, _, rfl, ?_⟩
 obtain ⟨x32, hx33, h⟩ := bind_some h
 refine ⟨idx_bd hx33, _, (idx_row hx33).trans (TIns.cells_eq x32), ?_⟩
 refine ⟨rfl, ?_⟩
 refine ⟨rfl, _, fun _ => [.int .i64 x18.fOp, .int .i64 x32.fA, .int .i64 x18.fB, .str x18.fS, .str x18.fT], rfl, one_set rfl, ?_⟩
 refine .direct ?_
 refine ⟨rfl, _, rfl, ?_⟩
 refine ⟨rfl, ?_⟩
 refine ⟨rfl, _, rfl, ?_⟩
 obtain ⟨x34, hx35, h⟩ := bind_some h
 refine ⟨idx_bd hx35, _, (idx_row hx35).trans (TIns.cells_eq x34), ?_⟩
 refine ⟨_, TIns.eq_cells (TIns.mk x18.fOp x32.fA x18.fB x18.fS x18.fT) x34, ?_⟩
 refine splitB.mk (fun hb36 => ?_) (fun hb36 => ?_)
 have hb37 := not_F hb36
 replace h := F_dec hb37 h
 refine .direct ?_
 obtain rfl := Option.some.inj h
 replace h := hk13
 obtain rfl := Option.some.inj h
 exact ⟨[], .bool false, [], by decide, (show 0 ≤ 0 by decide), .bool_eq rfl, trivial, rfl, rfl⟩
 have hb37 := not_T hb36
 replace h := T_dec hb37 h
 exact ⟨[(2, .optr 0 0 0 0), (3, .optr 1 0 0 0), (5, .int .i64 (W64 (y14 + 1)))], [.row 0 6 1 33 (fun _ => [.str a0.fName, sl 2 TParam.cells a0.fParams, sl 2 TParam.cells a0.fUses, sl 1 cS a0.fSlots, .bool a0.fGen, sl 5 TIns.cells a0.fCode]), .row 0 6 1 33 (fun _ => [.str a1.fName, sl 2 TParam.cells a1.fParams, sl 2 TParam.cells a1.fUses, sl 1 cS a1.fSlots, .bool a1.fGen, sl 5 TIns.cells a1.fCode])], ⟨[0, 1], by decide, (show 0 ≤ 2 by decide), ⟨.optr_eq rfl ⟨_, _, _, _, rfl⟩ ⟨_, _, _, _, rfl, Nat.zero_lt_one⟩ rfl rfl, .optr_eq rfl ⟨_, _, _, _, rfl⟩ ⟨_, _, _, _, rfl, Nat.zero_lt_one⟩ rfl rfl, .int_eq rfl, trivial⟩, ⟨⟨fun h0 => absurd (show 0 < 0 from h0) (by decide), rfl, .inl rfl, rfl, fun _ _ => ⟨.str_eq rfl, .slc_eq rfl (fun _ _ => rfl), .slc_eq rfl (fun _ _ => rfl), .slc_eq rfl (fun _ _ => rfl), .bool_eq rfl, .slc_eq rfl (fun _ _ => rfl), trivial⟩⟩, ⟨fun h0 => absurd (show 1 < 0 from h0) (by decide), rfl, .inl rfl, rfl, fun _ _ => ⟨.str_eq rfl, .slc_eq rfl (fun _ _ => rfl), .slc_eq rfl (fun _ _ => rfl), .slc_eq rfl (fun _ _ => rfl), .bool_eq rfl, .slc_eq rfl (fun _ _ => rfl), trivial⟩⟩, trivial⟩⟩, ih15 _ _ h rfl⟩
 replace h := F_var hb25 h
 refine .direct ?_
 refine ⟨rfl, _, rfl, ?_⟩
 refine ⟨rfl, ?_⟩
 refine ⟨rfl, _, rfl, ?_⟩
 obtain ⟨x39, hx40, h⟩ := bind_some h
 refine ⟨idx_bd hx40, _, (idx_row hx40).trans (TIns.cells_eq x39), ?_⟩
 refine ⟨_, TIns.eq_cells x18 x39, ?_⟩
 refine splitB.mk (fun hb41 => ?_) (fun hb41 => ?_)
 have hb42 := not_F hb41
 replace h := F_dec hb42 h
 refine .direct ?_
 obtain rfl := Option.some.inj h
 replace h := hk13
 obtain rfl := Option.some.inj h
 exact ⟨[], .bool false, [], by decide, (show 0 ≤ 0 by decide), .bool_eq rfl, trivial, rfl, rfl⟩
 have hb42 := not_T hb41
 replace h := T_dec hb42 h
 exact ⟨[(2, .optr 0 0 0 0), (3, .optr 1 0 0 0), (5, .int .i64 (W64 (y14 + 1)))], [.row 0 6 1 33 (fun _ => [.str a0.fName, sl 2 TParam.cells a0.fParams, sl 2 TParam.cells a0.fUses, sl 1 cS a0.fSlots, .bool a0.fGen, sl 5 TIns.cells a0.fCode]), .row 0 6 1 33 (fun _ => [.str a1.fName, sl 2 TParam.cells a1.fParams, sl 2 TParam.cells a1.fUses, sl 1 cS a1.fSlots, .bool a1.fGen, sl 5 TIns.cells a1.fCode])], ⟨[0, 1], by decide, (show 0 ≤ 2 by decide), ⟨.optr_eq rfl ⟨_, _, _, _, rfl⟩ ⟨_, _, _, _, rfl, Nat.zero_lt_one⟩ rfl rfl, .optr_eq rfl ⟨_, _, _, _, rfl⟩ ⟨_, _, _, _, rfl, Nat.zero_lt_one⟩ rfl rfl, .int_eq rfl, trivial⟩, ⟨⟨fun h0 => absurd (show 0 < 0 from h0) (by decide), rfl, .inl rfl, rfl, fun _ _ => ⟨.str_eq rfl, .slc_eq rfl (fun _ _ => rfl), .slc_eq rfl (fun _ _ => rfl), .slc_eq rfl (fun _ _ => rfl), .bool_eq rfl, .slc_eq rfl (fun _ _ => rfl), trivial⟩⟩, ⟨fun h0 => absurd (show 1 < 0 from h0) (by decide), rfl, .inl rfl, rfl, fun _ _ => ⟨.str_eq rfl, .slc_eq rfl (fun _ _ => rfl), .slc_eq rfl (fun _ _ => rfl), .slc_eq rfl (fun _ _ => rfl), .bool_eq rfl, .slc_eq rfl (fun _ _ => rfl), trivial⟩⟩, trivial⟩⟩, ih15 _ _ h rfl⟩
 replace h := F_dec hb17 h
 exact ⟨[], [], ⟨[], by decide, (show 0 ≤ 0 by decide), trivial, trivial⟩, Option.some.inj h, rfl, rfl⟩
 rintro _ _ ⟨rfl, rfl, rfl⟩
 replace h := hk13
 refine .direct ?_
 obtain rfl := Option.some.inj h
 exact ⟨[], .bool true, [], by decide, (show 0 ≤ 0 by decide), .bool_eq rfl, trivial, rfl, rfl⟩
end Go.Am
