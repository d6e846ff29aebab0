/- Models of Go functions, and their walks. (Printed by tools/mg.py.) -/
import Derived.Test.YtnehfdofoemnfaaA3
set_option linter.unusedVariables false
set_option linter.unusedSimpArgs false
set_option maxRecDepth 100000
namespace Go.Am
open Go Go.RowKit Go.Proofs

def m_i_HeightsOf_c1 (a0 : Int) (a1 : Int) (a2 : List Int) (a3 : List Int) : Option (Bool × (List Int) × (List Int)) :=
 ((
 (if a0 ≥ (a2.length : Int) then
 some (.inr (false, a2, a3))
 else
 m_i_InRange a1 0 500 >>= fun v5 =>
 (if v5 = true then
 idx a2 a0 >>= fun x8 =>
 (if x8 ≥ 0 then
 idx a2 a0 >>= fun x11 =>
 (if x11 = a1 then
 some (.inl ())
 else
 some (.inr (false, a2, a3)))
 else
 some (.inl ()))
 else
 some (.inr (false, a2, a3))))
 : Option ((Unit) ⊕ (Bool × (List Int) × (List Int)))) >>= fun o1 => match o1 with
 | .inr r => some r
 | .inl _ =>
 idx a2 a0 >>= fun x15 =>
 (if x15 < 0 then
 idx a2 a0 >>= fun x18 =>
 lapp 8 a3 ([a0] : List Int) >>= fun l20 =>
 some (true, (a2.set a0.toNat a1), l20)
 else
 some (true, a2, a3))
 )
theorem ok_i_HeightsOf_c1 {a0 : Int} {a1 : Int} {a2 : List Int} {a3 : List Int} {r : Bool × (List Int) × (List Int)} {g1000 : Nat} {g1001 : Nat} {g1002 : Nat} {g1003 : Nat} (h : m_i_HeightsOf_c1 a0 a1 a2 a3 = some r) : ACall Try.prog 73 [.int .i64 a0, .int .i64 a1, .optr 0 g1000 0 0, .optr 2 g1002 0 0] [.row g1000 1 1 27 (fun _ => [.own 1 g1001 0 a2.length]), .row g1001 1 a2.length 3 (row cI a2), .row g1002 1 1 27 (fun _ => [.own 3 g1003 0 a3.length]), .row g1003 1 a3.length 3 (row cI a3)] (fun res h => ∃ G1 : Nat, ∃ G3 : Nat, res = .bool r.1 ∧ h = [.row g1000 1 1 27 (fun _ => [.own 1 G1 0 r.2.1.length]), .row G1 1 r.2.1.length 3 (row cI r.2.1), .row g1002 1 1 27 (fun _ => [.own 3 G3 0 r.2.2.length]), .row G3 1 r.2.2.length 3 (row cI r.2.2)]) := by
 refine ACall.of_vc tabT_ok mixed Try.func73 rfl (by kernel_rfl) _ _ _ rfl (by kernel_rfl) ?_
 unfold m_i_HeightsOf_c1 at h
 refine .direct ?_
 obtain ⟨o1, ho2, hk3⟩ := bind_some h
 replace h := ho2
 refine .cut (fun σ η => .inl () = o1 ∧ σ = [(0, .int .i64 a0), (1, .int .i64 a1), (2, .optr 0 g1000 0 0), (3, .optr 2 g1002 0 0)] ∧ η = [.row g1000 1 1 27 (fun _ => [.own 1 g1001 0 a2.length]), .row g1001 1 a2.length 3 (row cI a2), .row g1002 1 1 27 (fun _ => [.own 3 g1003 0 a3.length]), .row g1003 1 a3.length 3 (row cI a3)]) ?_ ?_
 refine .direct ?_
 refine ⟨rfl, _, rfl, ?_⟩
 refine ⟨rfl, ?_⟩
 refine splitB.mk (fun hb4 => ?_) (fun hb4 => ?_)
 replace h := T_dec hb4 h
 refine splitB_t ?_
 refine splitB_t ?_
 refine splitB_t ?_
 refine splitB_t ?_
 refine splitB_t ?_
 refine splitB_t ?_
 refine splitB_t ?_
 refine splitB_t ?_
 refine splitB_t ?_
 refine splitB_t ?_
 refine splitB_t ?_
 refine splitB_t ?_
 refine .direct ?_
 obtain rfl := Option.some.inj h
 replace h := hk3
 obtain rfl := Option.some.inj h
 exact ⟨[0, 1, 2, 3], .bool false, [.row g1000 1 1 27 (fun _ => [.own 1 g1001 0 a2.length]), .row g1001 1 a2.length 3 (row cI a2), .row g1002 1 1 27 (fun _ => [.own 3 g1003 0 a3.length]), .row g1003 1 a3.length 3 (row cI a3)], by decide, (show 4 ≤ 4 by decide), .bool_eq rfl, ⟨⟨fun _ => ⟨rfl, rfl⟩, rfl, .inl rfl, rfl, fun _ _ => ⟨.own_eq rfl ⟨_, _, _, _, rfl⟩ ⟨_, _, _, _, rfl, Nat.le_of_eq (Nat.zero_add _)⟩ rfl rfl, trivial⟩⟩, ⟨fun _ => ⟨rfl, rfl⟩, rfl, .inl rfl, rfl, fz_row cI_pure⟩, ⟨fun _ => ⟨rfl, rfl⟩, rfl, .inl rfl, rfl, fun _ _ => ⟨.own_eq rfl ⟨_, _, _, _, rfl⟩ ⟨_, _, _, _, rfl, Nat.le_of_eq (Nat.zero_add _)⟩ rfl rfl, trivial⟩⟩, ⟨fun _ => ⟨rfl, rfl⟩, rfl, .inl rfl, rfl, fz_row cI_pure⟩, trivial⟩, g1001, g1003, rfl, rfl⟩
 replace h := F_dec hb4 h
 refine splitB_f ?_
 obtain ⟨v5, hv6, h⟩ := bind_some h
 refine ⟨_, ACall.pure0 (ok_i_InRange hv6) _ rfl (fun _ => rfl), ?_⟩
 rintro _ _ ⟨rfl, rfl⟩
 refine splitB_f ?_
 refine splitB_f ?_
 refine splitB.mk (fun hb7 => ?_) (fun hb7 => ?_)
 have hb14 := not_F hb7
 replace h := F_var hb14 h
 refine splitB_t ?_
 refine splitB_t ?_
 refine splitB_t ?_
 refine splitB_t ?_
 refine splitB_t ?_
 refine splitB_t ?_
 refine splitB_t ?_
 refine splitB_t ?_
 refine .direct ?_
 obtain rfl := Option.some.inj h
 replace h := hk3
 obtain rfl := Option.some.inj h
 exact ⟨[0, 1, 2, 3], .bool false, [.row g1000 1 1 27 (fun _ => [.own 1 g1001 0 a2.length]), .row g1001 1 a2.length 3 (row cI a2), .row g1002 1 1 27 (fun _ => [.own 3 g1003 0 a3.length]), .row g1003 1 a3.length 3 (row cI a3)], by decide, (show 4 ≤ 4 by decide), .bool_eq rfl, ⟨⟨fun _ => ⟨rfl, rfl⟩, rfl, .inl rfl, rfl, fun _ _ => ⟨.own_eq rfl ⟨_, _, _, _, rfl⟩ ⟨_, _, _, _, rfl, Nat.le_of_eq (Nat.zero_add _)⟩ rfl rfl, trivial⟩⟩, ⟨fun _ => ⟨rfl, rfl⟩, rfl, .inl rfl, rfl, fz_row cI_pure⟩, ⟨fun _ => ⟨rfl, rfl⟩, rfl, .inl rfl, rfl, fun _ _ => ⟨.own_eq rfl ⟨_, _, _, _, rfl⟩ ⟨_, _, _, _, rfl, Nat.le_of_eq (Nat.zero_add _)⟩ rfl rfl, trivial⟩⟩, ⟨fun _ => ⟨rfl, rfl⟩, rfl, .inl rfl, rfl, fz_row cI_pure⟩, trivial⟩, g1001, g1003, rfl, rfl⟩
 have hb14 := not_T hb7
 replace h := T_var hb14 h
 refine ⟨rfl, _, rfl, ?_⟩
 refine splitB_f ?_
 refine splitB_f ?_
 obtain ⟨x8, hx9, h⟩ := bind_some h
 refine ⟨rfl, idx_bd hx9, _, Nat.zero_add _, ?_⟩
 refine splitB_f ?_
 refine ⟨rfl, _, ((idx_row hx9).trans rfl), ?_⟩
 refine splitB_f ?_
 refine splitB_f ?_
 refine splitB.mk (fun hb10 => ?_) (fun hb10 => ?_)
 replace h := T_dec hb10 h
 refine ⟨rfl, _, rfl, ?_⟩
 refine splitB_t ?_
 refine splitB_t ?_
 obtain ⟨x11, hx12, h⟩ := bind_some h
 refine ⟨rfl, idx_bd hx12, _, Nat.zero_add _, ?_⟩
 refine splitB_t ?_
 refine ⟨rfl, _, ((idx_row hx12).trans rfl), ?_⟩
 refine splitB_t ?_
 refine splitB_t ?_
 refine splitB_f ?_
 refine splitB_t ?_
 refine splitB_f ?_
 refine splitB.mk (fun hb13 => ?_) (fun hb13 => ?_)
 replace h := T_bne hb13 h
 refine .direct ?_
 obtain rfl := Option.some.inj h
 replace h := hk3
 obtain rfl := Option.some.inj h
 exact ⟨[0, 1, 2, 3], .bool false, [.row g1000 1 1 27 (fun _ => [.own 1 g1001 0 a2.length]), .row g1001 1 a2.length 3 (row cI a2), .row g1002 1 1 27 (fun _ => [.own 3 g1003 0 a3.length]), .row g1003 1 a3.length 3 (row cI a3)], by decide, (show 4 ≤ 4 by decide), .bool_eq rfl, ⟨⟨fun _ => ⟨rfl, rfl⟩, rfl, .inl rfl, rfl, fun _ _ => ⟨.own_eq rfl ⟨_, _, _, _, rfl⟩ ⟨_, _, _, _, rfl, Nat.le_of_eq (Nat.zero_add _)⟩ rfl rfl, trivial⟩⟩, ⟨fun _ => ⟨rfl, rfl⟩, rfl, .inl rfl, rfl, fz_row cI_pure⟩, ⟨fun _ => ⟨rfl, rfl⟩, rfl, .inl rfl, rfl, fun _ _ => ⟨.own_eq rfl ⟨_, _, _, _, rfl⟩ ⟨_, _, _, _, rfl, Nat.le_of_eq (Nat.zero_add _)⟩ rfl rfl, trivial⟩⟩, ⟨fun _ => ⟨rfl, rfl⟩, rfl, .inl rfl, rfl, fz_row cI_pure⟩, trivial⟩, g1001, g1003, rfl, rfl⟩
 replace h := F_bne hb13 h
 exact ⟨[(0, .int .i64 a0), (1, .int .i64 a1), (2, .optr 0 g1000 0 0), (3, .optr 2 g1002 0 0)], [.row g1000 1 1 27 (fun _ => [.own 1 g1001 0 a2.length]), .row g1001 1 a2.length 3 (row cI a2), .row g1002 1 1 27 (fun _ => [.own 3 g1003 0 a3.length]), .row g1003 1 a3.length 3 (row cI a3)], ⟨[0, 1, 2, 3], by decide, (show 4 ≤ 4 by decide), ⟨.int_eq rfl, .int_eq rfl, .optr_eq rfl ⟨_, _, _, _, rfl⟩ ⟨_, _, _, _, rfl, Nat.zero_lt_one⟩ rfl rfl, .optr_eq rfl ⟨_, _, _, _, rfl⟩ ⟨_, _, _, _, rfl, Nat.zero_lt_one⟩ rfl rfl, trivial⟩, ⟨⟨fun _ => ⟨rfl, rfl⟩, rfl, .inl rfl, rfl, fun _ _ => ⟨.own_eq rfl ⟨_, _, _, _, rfl⟩ ⟨_, _, _, _, rfl, Nat.le_of_eq (Nat.zero_add _)⟩ rfl rfl, trivial⟩⟩, ⟨fun _ => ⟨rfl, rfl⟩, rfl, .inl rfl, rfl, fz_row cI_pure⟩, ⟨fun _ => ⟨rfl, rfl⟩, rfl, .inl rfl, rfl, fun _ _ => ⟨.own_eq rfl ⟨_, _, _, _, rfl⟩ ⟨_, _, _, _, rfl, Nat.le_of_eq (Nat.zero_add _)⟩ rfl rfl, trivial⟩⟩, ⟨fun _ => ⟨rfl, rfl⟩, rfl, .inl rfl, rfl, fz_row cI_pure⟩, trivial⟩⟩, Option.some.inj h, rfl, rfl⟩
 replace h := F_dec hb10 h
 refine splitB_f ?_
 refine splitB_f ?_
 refine splitB_f ?_
 refine splitB_f ?_
 refine splitB_f ?_
 refine splitB_f ?_
 refine splitB_f ?_
 refine splitB_f ?_
 refine splitB_f ?_
 exact ⟨[(0, .int .i64 a0), (1, .int .i64 a1), (2, .optr 0 g1000 0 0), (3, .optr 2 g1002 0 0)], [.row g1000 1 1 27 (fun _ => [.own 1 g1001 0 a2.length]), .row g1001 1 a2.length 3 (row cI a2), .row g1002 1 1 27 (fun _ => [.own 3 g1003 0 a3.length]), .row g1003 1 a3.length 3 (row cI a3)], ⟨[0, 1, 2, 3], by decide, (show 4 ≤ 4 by decide), ⟨.int_eq rfl, .int_eq rfl, .optr_eq rfl ⟨_, _, _, _, rfl⟩ ⟨_, _, _, _, rfl, Nat.zero_lt_one⟩ rfl rfl, .optr_eq rfl ⟨_, _, _, _, rfl⟩ ⟨_, _, _, _, rfl, Nat.zero_lt_one⟩ rfl rfl, trivial⟩, ⟨⟨fun _ => ⟨rfl, rfl⟩, rfl, .inl rfl, rfl, fun _ _ => ⟨.own_eq rfl ⟨_, _, _, _, rfl⟩ ⟨_, _, _, _, rfl, Nat.le_of_eq (Nat.zero_add _)⟩ rfl rfl, trivial⟩⟩, ⟨fun _ => ⟨rfl, rfl⟩, rfl, .inl rfl, rfl, fz_row cI_pure⟩, ⟨fun _ => ⟨rfl, rfl⟩, rfl, .inl rfl, rfl, fun _ _ => ⟨.own_eq rfl ⟨_, _, _, _, rfl⟩ ⟨_, _, _, _, rfl, Nat.le_of_eq (Nat.zero_add _)⟩ rfl rfl, trivial⟩⟩, ⟨fun _ => ⟨rfl, rfl⟩, rfl, .inl rfl, rfl, fz_row cI_pure⟩, trivial⟩⟩, Option.some.inj h, rfl, rfl⟩
 rintro _ _ ⟨rfl, rfl, rfl⟩
 replace h := hk3
 refine .direct ?_
 refine .direct ?_
 refine ⟨rfl, _, rfl, ?_⟩
 obtain ⟨x15, hx16, h⟩ := bind_some h
 refine ⟨rfl, idx_bd hx16, _, Nat.zero_add _, ?_⟩
 refine ⟨rfl, _, ((idx_row hx16).trans rfl), ?_⟩
 refine splitB.mk (fun hb17 => ?_) (fun hb17 => ?_)
 replace h := T_dec hb17 h
 refine .direct ?_
 refine ⟨rfl, _, rfl, ?_⟩
 obtain ⟨x18, hx19, h⟩ := bind_some h
 refine ⟨rfl, idx_bd hx19, _, Nat.zero_add _, ?_⟩
 refine ⟨rfl, _, row cI (a2.set a0.toNat a1), ((idx_row hx19).trans rfl), row_set (idx_lt hx19) rfl ⟨.same _, trivial⟩, ?_⟩
 refine ⟨rfl, _, rfl, ?_⟩
 refine ⟨row cI ([a0] : List Int), row_lit cI ([a0] : List Int) rfl (cll_refl rfl), ?_⟩
 obtain ⟨l20, hx21, h⟩ := bind_some h
 refine ⟨rfl, rfl, lapp_bd hx21, l20.length, row cI l20, lapp_len hx21, lapp_row hx21 shows_all (src_own shows_all), ?_⟩
 refine ⟨rfl, _, fun _ => [.own 3 (g1003 + 1) 0 l20.length], rfl, one_set rfl, ?_⟩
 refine .direct ?_
 obtain rfl := Option.some.inj h
 exact ⟨[0, 1, 2, 3], .bool true, [.row g1000 1 1 27 (fun _ => [.own 1 g1001 0 (a2.set a0.toNat a1).length]), .row g1001 1 (a2.set a0.toNat a1).length 3 (row cI (a2.set a0.toNat a1)), .row g1002 1 1 27 (fun _ => [.own 3 (g1003 + 1) 0 l20.length]), .row (g1003 + 1) 1 l20.length 3 (row cI l20)], by decide, (show 4 ≤ 4 by decide), .bool_eq rfl, ⟨⟨fun _ => ⟨rfl, rfl⟩, rfl, .inl rfl, rfl, fun _ _ => ⟨.own_eq rfl ⟨_, _, _, _, rfl⟩ ⟨_, _, _, _, rfl, Nat.le_of_eq (Nat.zero_add _)⟩ rfl (by simp), trivial⟩⟩, ⟨fun _ => ⟨rfl, rfl⟩, rfl, .inl (by simp), rfl, fz_row cI_pure⟩, ⟨fun _ => ⟨rfl, rfl⟩, rfl, .inl rfl, rfl, fun _ _ => ⟨.own_eq rfl ⟨_, _, _, _, rfl⟩ ⟨_, _, _, _, rfl, Nat.le_of_eq (Nat.zero_add _)⟩ rfl rfl, trivial⟩⟩, ⟨fun _ => ⟨rfl, rfl⟩, rfl, .inl rfl, rfl, fz_row cI_pure⟩, trivial⟩, g1001, (g1003 + 1), rfl, rfl⟩
 replace h := F_dec hb17 h
 refine .direct ?_
 obtain rfl := Option.some.inj h
 exact ⟨[0, 1, 2, 3], .bool true, [.row g1000 1 1 27 (fun _ => [.own 1 g1001 0 a2.length]), .row g1001 1 a2.length 3 (row cI a2), .row g1002 1 1 27 (fun _ => [.own 3 g1003 0 a3.length]), .row g1003 1 a3.length 3 (row cI a3)], by decide, (show 4 ≤ 4 by decide), .bool_eq rfl, ⟨⟨fun _ => ⟨rfl, rfl⟩, rfl, .inl rfl, rfl, fun _ _ => ⟨.own_eq rfl ⟨_, _, _, _, rfl⟩ ⟨_, _, _, _, rfl, Nat.le_of_eq (Nat.zero_add _)⟩ rfl rfl, trivial⟩⟩, ⟨fun _ => ⟨rfl, rfl⟩, rfl, .inl rfl, rfl, fz_row cI_pure⟩, ⟨fun _ => ⟨rfl, rfl⟩, rfl, .inl rfl, rfl, fun _ _ => ⟨.own_eq rfl ⟨_, _, _, _, rfl⟩ ⟨_, _, _, _, rfl, Nat.le_of_eq (Nat.zero_add _)⟩ rfl rfl, trivial⟩⟩, ⟨fun _ => ⟨rfl, rfl⟩, rfl, .inl rfl, rfl, fz_row cI_pure⟩, trivial⟩, g1001, g1003, rfl, rfl⟩
def m_i_HeightsOf_L2 (a0 : TFunc) (l8 : List Int) (y9 : Int) : Option (((List Int)) ⊕ ((List Int) × Bool)) :=
 (if y9 < (a0.fCode.length : Int) then
 idx a0.fCode y9 >>= fun x13 =>
 m_i_IsIns x13 (a0.fSlots.length : Int) (a0.fCode.length : Int) >>= fun v15 =>
 (if v15 = true then
 idx l8 y9 >>= fun x18 =>
 m_i_HeightsOf_L2 a0 (l8.set y9.toNat (-1)) (W64 (y9 + 1))
 else
 some (.inr ([], false)))
 else
 some (.inl l8))
partial_fixpoint
def m_i_HeightsOf_L4 (a0 : TFunc) (l29 : List Int) (l30 : List Int) : Option (((List Int)) ⊕ ((List Int) × Bool)) :=
 (if (l30.length : Int) > 0 then
 idx l30 (W64 ((l30.length : Int) - 1)) >>= fun x34 =>
 (
 lto l30 (W64 ((l30.length : Int) - 1)) >>= fun l40 =>
 some l40
 : Option ((List Int))) >>= fun l36 =>
 idx a0.fCode x34 >>= fun x42 =>
 idx l29 x34 >>= fun x44 =>
 m_i_InsNeed x42 >>= fun v46 =>
 (if v46 > x44 then
 some (.inr ([], false))
 else
 m_i_IsFinal x42.fOp >>= fun v49 =>
 (if v49 = true then
 m_i_HasTarget x42.fOp >>= fun v75 =>
 (if v75 = true then
 m_i_TargetChange x42.fOp >>= fun v78 =>
 m_i_HeightsOf_c1 x42.fA (W64 (x44 + v78)) l29 l36 >>= fun (v80, v81, v82) =>
 (if v80 = true then
 m_i_HeightsOf_L4 a0 v81 v82
 else
 some (.inr ([], false)))
 else
 m_i_HeightsOf_L4 a0 l29 l36)
 else
 m_i_InsChange x42 >>= fun v52 =>
 m_i_HeightsOf_c1 (W64 (x34 + 1)) (W64 (x44 + v52)) l29 l36 >>= fun (v54, v55, v56) =>
 (if v54 = true then
 m_i_HasTarget x42.fOp >>= fun v61 =>
 (if v61 = true then
 m_i_TargetChange x42.fOp >>= fun v64 =>
 m_i_HeightsOf_c1 x42.fA (W64 (x44 + v64)) v55 v56 >>= fun (v66, v67, v68) =>
 (if v66 = true then
 m_i_HeightsOf_L4 a0 v67 v68
 else
 some (.inr ([], false)))
 else
 m_i_HeightsOf_L4 a0 v55 v56)
 else
 some (.inr ([], false)))))
 else
 some (.inl l29))
partial_fixpoint
def m_i_HeightsOf (a0 : TFunc) : Option ((List Int) × Bool) :=
 (if (a0.fCode.length : Int) = 0 then
 some ([], false)
 else
 (lmake 8 (a0.fCode.length : Int) (a0.fCode.length : Int) : Option (List Int)) >>= fun l2 =>
 ((
 m_i_HeightsOf_L2 a0 l2 0
 : Option (((List Int)) ⊕ ((List Int) × Bool))) >>= fun o5 => match o5 with
 | .inr r => some r
 | .inl l4 =>
 idx l4 0 >>= fun x23 =>
 ((
 m_i_HeightsOf_L4 a0 (l4.set ((0 : Int).toNat) 0) ([0] : List Int)
 : Option (((List Int)) ⊕ ((List Int) × Bool))) >>= fun o26 => match o26 with
 | .inr r => some r
 | .inl l25 =>
 some (l25, true)
 )
 ))
theorem ok_i_HeightsOf {a0 : TFunc} {r : (List Int) × Bool} (h : m_i_HeightsOf a0 = some r) : ACall Try.prog 38 [.agg [.str a0.fName, sl 2 TParam.cells a0.fParams, sl 2 TParam.cells a0.fUses, sl 1 cS a0.fSlots, .bool a0.fGen, sl 5 TIns.cells a0.fCode]] [] (fun res h => res = .tup [sl 1 cI r.1, .bool r.2] ∧ h = []) := by
 refine ACall.of_vc tabT_ok mixed Try.func38 rfl (by kernel_rfl) _ _ _ rfl (by kernel_rfl) ?_
 unfold m_i_HeightsOf at h
 refine .direct ?_
 refine .direct ?_
 refine .direct ?_
 refine ⟨rfl, ?_⟩
 refine ⟨rfl, _, rfl, ?_⟩
 refine splitB.mk (fun hb1 => ?_) (fun hb1 => ?_)
 replace h := T_beq hb1 h
 refine .direct ?_
 obtain rfl := Option.some.inj h
 exact ⟨[], .tup [sl 1 cI [], .bool false], [], by decide, (show 0 ≤ 0 by decide), .tup_l ⟨fz_nils, .bool_eq rfl, trivial⟩, trivial, rfl, rfl⟩
 replace h := F_beq hb1 h
 refine .direct ?_
 refine ⟨rfl, ?_⟩
 refine ⟨rfl, _, rfl, ?_⟩
 obtain ⟨l2, hx3, h⟩ := bind_some h
 refine ⟨lmake_bd hx3, l2.length, row cI l2, lmake_len hx3, lmake_row hx3 rfl ⟨.same _, trivial⟩, ?_⟩
 refine ⟨rfl, _, fun _ => [.own 1 0 0 l2.length], rfl, one_set rfl, ?_⟩
 obtain ⟨o5, ho6, hk7⟩ := bind_some h
 replace h := ho6
 refine .cut (fun σ η => ∃ l4, .inl l4 = o5 ∧ σ = [(1, .optr 0 0 0 0), (4, .optr 1 0 0 0)] ∧ η = [.row 0 6 1 33 (fun _ => [.str a0.fName, sl 2 TParam.cells a0.fParams, sl 2 TParam.cells a0.fUses, sl 1 cS a0.fSlots, .bool a0.fGen, sl 5 TIns.cells a0.fCode]), .row 0 1 1 27 (fun _ => [.own 2 0 0 l4.length]), .row 0 1 l4.length 3 (row cI l4)]) ?_ ?_
 refine .direct ?_
 refine ⟨rfl, ?_⟩
 refine ⟨rfl, _, rfl, ?_⟩
 refine LoopAt.enter [(1, .optr 0 0 0 0), (4, .optr 1 0 0 0), (21, sl 5 TIns.cells a0.fCode), (22, .int .i64 (a0.fCode.length : Int)), (23, .int .i64 0)] [.row 0 6 1 33 (fun _ => [.str a0.fName, sl 2 TParam.cells a0.fParams, sl 2 TParam.cells a0.fUses, sl 1 cS a0.fSlots, .bool a0.fGen, sl 5 TIns.cells a0.fCode]), .row 0 1 1 27 (fun _ => [.own 2 0 0 l2.length]), .row 0 1 l2.length 3 (row cI l2)] ⟨[0, 2, 1], by decide, (show 0 ≤ 3 by decide), ⟨.optr_eq rfl ⟨_, _, _, _, rfl⟩ ⟨_, _, _, _, rfl, Nat.zero_lt_one⟩ rfl rfl, .optr_eq rfl ⟨_, _, _, _, rfl⟩ ⟨_, _, _, _, rfl, Nat.zero_lt_one⟩ rfl rfl, .slc_eq rfl (fun _ _ => rfl), .int_eq rfl, .int_eq rfl, trivial⟩, ⟨⟨fun h0 => absurd (show 0 < 0 from h0) (by decide), rfl, .inl rfl, rfl, fun _ _ => ⟨.str_eq rfl, .slc_eq rfl (fun _ _ => rfl), .slc_eq rfl (fun _ _ => rfl), .slc_eq rfl (fun _ _ => rfl), .bool_eq rfl, .slc_eq rfl (fun _ _ => rfl), trivial⟩⟩, ⟨fun h0 => absurd (show 1 < 0 from h0) (by decide), rfl, .inl rfl, rfl, fun _ _ => ⟨.own_eq rfl ⟨_, _, _, _, rfl⟩ ⟨_, _, _, _, rfl, Nat.le_of_eq (Nat.zero_add _)⟩ rfl rfl, trivial⟩⟩, ⟨fun h0 => absurd (show 2 < 0 from h0) (by decide), rfl, .inl rfl, rfl, fz_row cI_pure⟩, trivial⟩⟩ ?_
 refine m_i_HeightsOf_L2.partial_correctness a0 (motive := fun l8 y9 o21 => o5 = o21 → LoopAt _ _ [(1, .optr 0 0 0 0), (4, .optr 1 0 0 0), (21, sl 5 TIns.cells a0.fCode), (22, .int .i64 (a0.fCode.length : Int)), (23, .int .i64 y9)] [.row 0 6 1 33 (fun _ => [.str a0.fName, sl 2 TParam.cells a0.fParams, sl 2 TParam.cells a0.fUses, sl 1 cS a0.fSlots, .bool a0.fGen, sl 5 TIns.cells a0.fCode]), .row 0 1 1 27 (fun _ => [.own 2 0 0 l8.length]), .row 0 1 l8.length 3 (row cI l8)]) ?_ l2 0 o5 h rfl
 intro F11 ih10 l8 y9 o21 h hr22
 subst hr22
 refine LoopAt.round ?_
 refine .direct ?_
 refine .direct ?_
 refine splitB.mk (fun hb12 => ?_) (fun hb12 => ?_)
 replace h := T_dec hb12 h
 refine .direct ?_
 refine .direct ?_
 obtain ⟨x13, hx14, h⟩ := bind_some h
 refine ⟨idx_bd hx14, _, (idx_row hx14).trans (TIns.cells_eq x13), ?_⟩
 refine ⟨rfl, _, fun _ => [.int .i64 x13.fOp, .int .i64 x13.fA, .int .i64 x13.fB, .str x13.fS, .str x13.fT], rfl, one_set rfl, ?_⟩
 refine .direct ?_
 refine .direct ?_
 refine ⟨rfl, _, rfl, ?_⟩
 refine ⟨rfl, ?_⟩
 refine ⟨rfl, _, rfl, ?_⟩
 refine ⟨rfl, ?_⟩
 refine ⟨rfl, _, rfl, ?_⟩
 obtain ⟨v15, hv16, h⟩ := bind_some h
 refine ⟨_, ACall.pure0 (ok_i_IsIns hv16) _ rfl (fun _ => rfl), ?_⟩
 rintro _ _ ⟨rfl, rfl⟩
 refine splitB.mk (fun hb17 => ?_) (fun hb17 => ?_)
 have hb20 := not_F hb17
 replace h := F_var hb20 h
 refine .direct ?_
 obtain rfl := Option.some.inj h
 replace h := hk7
 obtain rfl := Option.some.inj h
 exact ⟨[], .tup [sl 1 cI [], .bool false], [], by decide, (show 0 ≤ 0 by decide), .tup_l ⟨fz_nils, .bool_eq rfl, trivial⟩, trivial, rfl, rfl⟩
 have hb20 := not_T hb17
 replace h := T_var hb20 h
 refine ⟨rfl, _, rfl, ?_⟩
 obtain ⟨x18, hx19, h⟩ := bind_some h
 refine ⟨rfl, idx_bd hx19, _, Nat.zero_add _, ?_⟩
 refine ⟨rfl, _, row cI (l8.set y9.toNat (-1)), ((idx_row hx19).trans rfl), row_set (idx_lt hx19) rfl ⟨.same _, trivial⟩, ?_⟩
 exact ⟨[(1, .optr 0 0 0 0), (4, .optr 1 0 0 0), (21, sl 5 TIns.cells a0.fCode), (22, .int .i64 (a0.fCode.length : Int)), (23, .int .i64 (W64 (y9 + 1)))], [.row 0 6 1 33 (fun _ => [.str a0.fName, sl 2 TParam.cells a0.fParams, sl 2 TParam.cells a0.fUses, sl 1 cS a0.fSlots, .bool a0.fGen, sl 5 TIns.cells a0.fCode]), .row 0 1 1 27 (fun _ => [.own 2 0 0 (l8.set y9.toNat (-1)).length]), .row 0 1 (l8.set y9.toNat (-1)).length 3 (row cI (l8.set y9.toNat (-1)))], ⟨[0, 1, 2], by decide, (show 0 ≤ 3 by decide), ⟨.optr_eq rfl ⟨_, _, _, _, rfl⟩ ⟨_, _, _, _, rfl, Nat.zero_lt_one⟩ rfl rfl, .optr_eq rfl ⟨_, _, _, _, rfl⟩ ⟨_, _, _, _, rfl, Nat.zero_lt_one⟩ rfl rfl, .slc_eq rfl (fun _ _ => rfl), .int_eq rfl, .int_eq rfl, trivial⟩, ⟨⟨fun h0 => absurd (show 0 < 0 from h0) (by decide), rfl, .inl rfl, rfl, fun _ _ => ⟨.str_eq rfl, .slc_eq rfl (fun _ _ => rfl), .slc_eq rfl (fun _ _ => rfl), .slc_eq rfl (fun _ _ => rfl), .bool_eq rfl, .slc_eq rfl (fun _ _ => rfl), trivial⟩⟩, ⟨fun h0 => absurd (show 1 < 0 from h0) (by decide), rfl, .inl rfl, rfl, fun _ _ => ⟨.own_eq rfl ⟨_, _, _, _, rfl⟩ ⟨_, _, _, _, rfl, Nat.le_of_eq (Nat.zero_add _)⟩ rfl (by simp), trivial⟩⟩, ⟨fun h0 => absurd (show 2 < 0 from h0) (by decide), rfl, .inl (by simp), rfl, fz_row cI_pure⟩, trivial⟩⟩, ih10 _ _ _ h rfl⟩
 replace h := F_dec hb12 h
 exact ⟨[(1, .optr 0 0 0 0), (4, .optr 1 0 0 0)], [.row 0 6 1 33 (fun _ => [.str a0.fName, sl 2 TParam.cells a0.fParams, sl 2 TParam.cells a0.fUses, sl 1 cS a0.fSlots, .bool a0.fGen, sl 5 TIns.cells a0.fCode]), .row 0 1 1 27 (fun _ => [.own 2 0 0 l8.length]), .row 0 1 l8.length 3 (row cI l8)], ⟨[0, 1, 2], by decide, (show 0 ≤ 3 by decide), ⟨.optr_eq rfl ⟨_, _, _, _, rfl⟩ ⟨_, _, _, _, rfl, Nat.zero_lt_one⟩ rfl rfl, .optr_eq rfl ⟨_, _, _, _, rfl⟩ ⟨_, _, _, _, rfl, Nat.zero_lt_one⟩ rfl rfl, trivial⟩, ⟨⟨fun h0 => absurd (show 0 < 0 from h0) (by decide), rfl, .inl rfl, rfl, fun _ _ => ⟨.str_eq rfl, .slc_eq rfl (fun _ _ => rfl), .slc_eq rfl (fun _ _ => rfl), .slc_eq rfl (fun _ _ => rfl), .bool_eq rfl, .slc_eq rfl (fun _ _ => rfl), trivial⟩⟩, ⟨fun h0 => absurd (show 1 < 0 from h0) (by decide), rfl, .inl rfl, rfl, fun _ _ => ⟨.own_eq rfl ⟨_, _, _, _, rfl⟩ ⟨_, _, _, _, rfl, Nat.le_of_eq (Nat.zero_add _)⟩ rfl rfl, trivial⟩⟩, ⟨fun h0 => absurd (show 2 < 0 from h0) (by decide), rfl, .inl rfl, rfl, fz_row cI_pure⟩, trivial⟩⟩, l8, Option.some.inj h, rfl, rfl⟩
 rintro _ _ ⟨l4, rfl, rfl, rfl⟩
 replace h := hk7
 refine .direct ?_
 refine ⟨rfl, _, rfl, ?_⟩
 obtain ⟨x23, hx24, h⟩ := bind_some h
 refine ⟨rfl, idx_bd hx24, _, Nat.zero_add _, ?_⟩
 refine ⟨rfl, _, row cI (l4.set ((0 : Int).toNat) 0), ((idx_row hx24).trans rfl), row_set (idx_lt hx24) rfl ⟨.same _, trivial⟩, ?_⟩
 refine .direct ?_
 refine ⟨row cI ([0] : List Int), row_lit cI ([0] : List Int) rfl (cll_refl rfl), ?_⟩
 refine ⟨rfl, _, fun _ => [.own 3 0 0 ([0] : List Int).length], rfl, one_set rfl, ?_⟩
 refine .direct ?_
 obtain ⟨o26, ho27, hk28⟩ := bind_some h
 replace h := ho27
 refine .cut (fun σ η => ∃ l25, .inl l25 = o26 ∧ σ = [(4, .optr 0 0 0 0)] ∧ η = [.row 0 1 1 27 (fun _ => [.own 1 0 0 l25.length]), .row 0 1 l25.length 3 (row cI l25)]) ?_ ?_
 refine LoopAt.enter [(1, .optr 0 0 0 0), (4, .optr 1 0 0 0), (7, .optr 3 0 0 0), (8, .clo 73 [(1, 0), (3, 0)])] [.row 0 6 1 33 (fun _ => [.str a0.fName, sl 2 TParam.cells a0.fParams, sl 2 TParam.cells a0.fUses, sl 1 cS a0.fSlots, .bool a0.fGen, sl 5 TIns.cells a0.fCode]), .row 0 1 1 27 (fun _ => [.own 2 0 0 (l4.set ((0 : Int).toNat) 0).length]), .row 0 1 (l4.set ((0 : Int).toNat) 0).length 3 (row cI (l4.set ((0 : Int).toNat) 0)), .row 0 1 1 27 (fun _ => [.own 4 0 0 ([0] : List Int).length]), .row 0 1 ([0] : List Int).length 3 (row cI ([0] : List Int))] ⟨[0, 1, 2, 4, 3], by decide, (show 0 ≤ 5 by decide), ⟨.optr_eq rfl ⟨_, _, _, _, rfl⟩ ⟨_, _, _, _, rfl, Nat.zero_lt_one⟩ rfl rfl, .optr_eq rfl ⟨_, _, _, _, rfl⟩ ⟨_, _, _, _, rfl, Nat.zero_lt_one⟩ rfl rfl, .optr_eq rfl ⟨_, _, _, _, rfl⟩ ⟨_, _, _, _, rfl, Nat.zero_lt_one⟩ rfl rfl, (.clo_l ⟨⟨rfl, ⟨_, _, _, _, rfl⟩, ⟨_, _, _, _, rfl, Nat.zero_lt_one⟩⟩, ⟨rfl, ⟨_, _, _, _, rfl⟩, ⟨_, _, _, _, rfl, Nat.zero_lt_one⟩⟩, trivial⟩), trivial⟩, ⟨⟨fun h0 => absurd (show 0 < 0 from h0) (by decide), rfl, .inl rfl, rfl, fun _ _ => ⟨.str_eq rfl, .slc_eq rfl (fun _ _ => rfl), .slc_eq rfl (fun _ _ => rfl), .slc_eq rfl (fun _ _ => rfl), .bool_eq rfl, .slc_eq rfl (fun _ _ => rfl), trivial⟩⟩, ⟨fun h0 => absurd (show 1 < 0 from h0) (by decide), rfl, .inl rfl, rfl, fun _ _ => ⟨.own_eq rfl ⟨_, _, _, _, rfl⟩ ⟨_, _, _, _, rfl, Nat.le_of_eq (Nat.zero_add _)⟩ rfl (by simp), trivial⟩⟩, ⟨fun h0 => absurd (show 2 < 0 from h0) (by decide), rfl, .inl (by simp), rfl, fz_row cI_pure⟩, ⟨fun h0 => absurd (show 3 < 0 from h0) (by decide), rfl, .inl rfl, rfl, fun _ _ => ⟨.own_eq rfl ⟨_, _, _, _, rfl⟩ ⟨_, _, _, _, rfl, Nat.le_of_eq (Nat.zero_add _)⟩ rfl rfl, trivial⟩⟩, ⟨fun h0 => absurd (show 4 < 0 from h0) (by decide), rfl, .inl rfl, rfl, fz_row cI_pure⟩, trivial⟩⟩ ?_
 refine m_i_HeightsOf_L4.partial_correctness a0 (motive := fun l29 l30 o89 => o26 = o89 → LoopAt _ _ [(1, .optr 0 0 0 0), (4, .optr 1 0 0 0), (7, .optr 3 0 0 0), (8, .clo 73 [(1, 0), (3, 0)])] [.row 0 6 1 33 (fun _ => [.str a0.fName, sl 2 TParam.cells a0.fParams, sl 2 TParam.cells a0.fUses, sl 1 cS a0.fSlots, .bool a0.fGen, sl 5 TIns.cells a0.fCode]), .row 0 1 1 27 (fun _ => [.own 2 0 0 l29.length]), .row 0 1 l29.length 3 (row cI l29), .row 0 1 1 27 (fun _ => [.own 4 0 0 l30.length]), .row 0 1 l30.length 3 (row cI l30)]) ?_ (l4.set ((0 : Int).toNat) 0) ([0] : List Int) o26 h rfl
 intro F32 ih31 l29 l30 o89 h hr90
 subst hr90
 refine LoopAt.round ?_
 refine .direct ?_
 refine .direct ?_
 refine ⟨rfl, _, rfl, ?_⟩
 refine ⟨rfl, ?_⟩
 refine splitB.mk (fun hb33 => ?_) (fun hb33 => ?_)
 replace h := T_dec hb33 h
 refine .direct ?_
 refine ⟨rfl, _, rfl, ?_⟩
 refine ⟨rfl, _, rfl, ?_⟩
 refine ⟨rfl, ?_⟩
 obtain ⟨x34, hx35, h⟩ := bind_some h
 refine ⟨rfl, idx_bd hx35, _, Nat.zero_add _, ?_⟩
 refine ⟨rfl, _, ((idx_row hx35).trans rfl), ?_⟩
 obtain ⟨o37, ho38, hk39⟩ := bind_some h
 replace h := ho38
 refine .cut (fun σ η => ∃ l36, l36 = o37 ∧ σ = [(1, .optr 0 0 0 0), (4, .optr 1 0 0 0), (7, .optr 3 0 0 0), (8, .clo 73 [(1, 0), (3, 0)]), (9, .int .i64 x34)] ∧ η = [.row 0 6 1 33 (fun _ => [.str a0.fName, sl 2 TParam.cells a0.fParams, sl 2 TParam.cells a0.fUses, sl 1 cS a0.fSlots, .bool a0.fGen, sl 5 TIns.cells a0.fCode]), .row 0 1 1 27 (fun _ => [.own 2 0 0 l29.length]), .row 0 1 l29.length 3 (row cI l29), .row 0 1 1 27 (fun _ => [.own 4 0 0 l36.length]), .row 0 1 l36.length 3 (row cI l36)]) ?_ ?_
 refine ⟨rfl, _, rfl, ?_⟩
 refine ⟨rfl, _, rfl, ?_⟩
 refine ⟨rfl, ?_⟩
 obtain ⟨l40, hx41, h⟩ := bind_some h
 refine ⟨rfl, trivial, lto_bd hx41, _, l40.length, rfl, lto_len hx41, ?_⟩
 refine ⟨rfl, _, fun _ => [.own 4 0 0 l40.length], rfl, one_set rfl, ?_⟩
 exact ⟨[(1, .optr 0 0 0 0), (4, .optr 1 0 0 0), (7, .optr 3 0 0 0), (8, .clo 73 [(1, 0), (3, 0)]), (9, .int .i64 x34)], [.row 0 6 1 33 (fun _ => [.str a0.fName, sl 2 TParam.cells a0.fParams, sl 2 TParam.cells a0.fUses, sl 1 cS a0.fSlots, .bool a0.fGen, sl 5 TIns.cells a0.fCode]), .row 0 1 1 27 (fun _ => [.own 2 0 0 l29.length]), .row 0 1 l29.length 3 (row cI l29), .row 0 1 1 27 (fun _ => [.own 4 0 0 l40.length]), .row 0 1 l40.length 3 (row cI l40)], ⟨[0, 1, 2, 3, 4], by decide, (show 0 ≤ 5 by decide), ⟨.optr_eq rfl ⟨_, _, _, _, rfl⟩ ⟨_, _, _, _, rfl, Nat.zero_lt_one⟩ rfl rfl, .optr_eq rfl ⟨_, _, _, _, rfl⟩ ⟨_, _, _, _, rfl, Nat.zero_lt_one⟩ rfl rfl, .optr_eq rfl ⟨_, _, _, _, rfl⟩ ⟨_, _, _, _, rfl, Nat.zero_lt_one⟩ rfl rfl, (.clo_l ⟨⟨rfl, ⟨_, _, _, _, rfl⟩, ⟨_, _, _, _, rfl, Nat.zero_lt_one⟩⟩, ⟨rfl, ⟨_, _, _, _, rfl⟩, ⟨_, _, _, _, rfl, Nat.zero_lt_one⟩⟩, trivial⟩), .int_eq rfl, trivial⟩, ⟨⟨fun h0 => absurd (show 0 < 0 from h0) (by decide), rfl, .inl rfl, rfl, fun _ _ => ⟨.str_eq rfl, .slc_eq rfl (fun _ _ => rfl), .slc_eq rfl (fun _ _ => rfl), .slc_eq rfl (fun _ _ => rfl), .bool_eq rfl, .slc_eq rfl (fun _ _ => rfl), trivial⟩⟩, ⟨fun h0 => absurd (show 1 < 0 from h0) (by decide), rfl, .inl rfl, rfl, fun _ _ => ⟨.own_eq rfl ⟨_, _, _, _, rfl⟩ ⟨_, _, _, _, rfl, Nat.le_of_eq (Nat.zero_add _)⟩ rfl rfl, trivial⟩⟩, ⟨fun h0 => absurd (show 2 < 0 from h0) (by decide), rfl, .inl rfl, rfl, fz_row cI_pure⟩, ⟨fun h0 => absurd (show 3 < 0 from h0) (by decide), rfl, .inl rfl, rfl, fun _ _ => ⟨.own_eq rfl ⟨_, _, _, _, rfl⟩ ⟨_, _, _, _, rfl, Nat.le_of_eq (Nat.zero_add _)⟩ rfl rfl, trivial⟩⟩, ⟨fun h0 => absurd (show 4 < 0 from h0) (by decide), rfl, .inr ⟨(show 0 ≤ 4 by decide), (by decide), (lto_le hx41)⟩, rfl, (fz_shows cI_pure (shows_lto shows_all hx41))⟩, trivial⟩⟩, l40, Option.some.inj h, rfl, rfl⟩
 rintro _ _ ⟨l36, rfl, rfl, rfl⟩
 replace h := hk39
 refine .direct ?_
 refine ⟨rfl, ?_⟩
 refine ⟨rfl, _, rfl, ?_⟩
 obtain ⟨x42, hx43, h⟩ := bind_some h
 refine ⟨idx_bd hx43, _, (idx_row hx43).trans (TIns.cells_eq x42), ?_⟩
 refine ⟨rfl, _, fun _ => [.int .i64 x42.fOp, .int .i64 x42.fA, .int .i64 x42.fB, .str x42.fS, .str x42.fT], rfl, one_set rfl, ?_⟩
 refine .direct ?_
 refine ⟨rfl, _, rfl, ?_⟩
 obtain ⟨x44, hx45, h⟩ := bind_some h
 refine ⟨rfl, idx_bd hx45, _, Nat.zero_add _, ?_⟩
 refine ⟨rfl, _, ((idx_row hx45).trans rfl), ?_⟩
 refine .direct ?_
 refine .float [(0, true), (2, true), (1, false), (3, true), (4, true), (5, true), (6, true), (7, false), (8, true), (9, true), (10, true), (11, true), (12, true), (13, true), (14, true), (15, false), (16, true), (17, false), (18, true), (19, true), (20, true), (21, true), (22, true), (23, true), (24, false), (25, true), (26, true), (27, true), (28, true), (29, true), (30, true), (31, true), (32, false), (33, true), (34, false), (35, true), (36, true), (37, true)] (by kernel_rfl) ?_
 refine ⟨rfl, _, rfl, ?_⟩
 obtain ⟨v46, hv47, h⟩ := bind_some h
 refine ⟨_, ACall.pure0 (ok_i_InsNeed hv47) _ rfl (fun _ => rfl), ?_⟩
 rintro _ _ ⟨rfl, rfl⟩
 refine splitB.mk (fun hb48 => ?_) (fun hb48 => ?_)
 replace h := T_dec hb48 h
 refine splitB_t ?_
 refine splitB_t ?_
 refine splitB_t ?_
 refine splitB_t ?_
 refine splitB_t ?_
 refine splitB_t ?_
 refine splitB_t ?_
 refine splitB_t ?_
 refine splitB_t ?_
 refine splitB_t ?_
 refine ⟨rfl, ?_⟩
 refine splitB_t ?_
 refine splitB_t ?_
 refine splitB_t ?_
 refine .direct ?_
 obtain rfl := Option.some.inj h
 replace h := hk28
 obtain rfl := Option.some.inj h
 exact ⟨[], .tup [sl 1 cI [], .bool false], [], by decide, (show 0 ≤ 0 by decide), .tup_l ⟨fz_nils, .bool_eq rfl, trivial⟩, trivial, rfl, rfl⟩
 replace h := F_dec hb48 h
 refine ⟨rfl, ?_⟩
 refine splitB_f ?_
 refine ⟨rfl, _, rfl, ?_⟩
 refine splitB_f ?_
 obtain ⟨v49, hv50, h⟩ := bind_some h
 refine ⟨_, ACall.pure0 (ok_i_IsFinal hv50) _ rfl (fun _ => rfl), ?_⟩
 rintro _ _ ⟨rfl, rfl⟩
 refine splitB_f ?_
 refine splitB_f ?_
 refine splitB.mk (fun hb51 => ?_) (fun hb51 => ?_)
 have hb88 := not_F hb51
 replace h := F_var hb88 h
 refine splitB_t ?_
 refine splitB_t ?_
 refine splitB_t ?_
 refine splitB_t ?_
 refine ⟨rfl, _, rfl, ?_⟩
 refine splitB_t ?_
 obtain ⟨v52, hv53, h⟩ := bind_some h
 refine ⟨_, ACall.pure0 (ok_i_InsChange hv53) _ rfl (fun _ => rfl), ?_⟩
 rintro _ _ ⟨rfl, rfl⟩
 refine splitB_t ?_
 refine splitB_t ?_
 obtain ⟨⟨v54, v55, v56⟩, hv57, h⟩ := bind_some h
 refine ⟨fun res h' => ∃ g58 : Nat, ∃ g59 : Nat, res = .bool v54 ∧ h' = [.row 0 6 1 33 (fun _ => [.str a0.fName, sl 2 TParam.cells a0.fParams, sl 2 TParam.cells a0.fUses, sl 1 cS a0.fSlots, .bool a0.fGen, sl 5 TIns.cells a0.fCode]), .row 0 1 1 27 (fun _ => [.own 2 g58 0 v55.length]), .row g58 1 v55.length 3 (row cI v55), .row 0 1 1 27 (fun _ => [.own 4 g59 0 v56.length]), .row g59 1 v56.length 3 (row cI v56), .row 0 5 1 53 (fun _ => [.int .i64 x42.fOp, .int .i64 x42.fA, .int .i64 x42.fB, .str x42.fS, .str x42.fT])], (ACall.over (ok_i_HeightsOf_c1 (g1000 := 0) (g1001 := 0) (g1002 := 0) (g1003 := 0) hv57) [1, 2, 3, 4] [.row 0 6 1 33 (fun _ => [.str a0.fName, sl 2 TParam.cells a0.fParams, sl 2 TParam.cells a0.fUses, sl 1 cS a0.fSlots, .bool a0.fGen, sl 5 TIns.cells a0.fCode]), .row 0 1 1 27 (fun _ => [.own 2 0 0 l29.length]), .row 0 1 l29.length 3 (row cI l29), .row 0 1 1 27 (fun _ => [.own 4 0 0 l36.length]), .row 0 1 l36.length 3 (row cI l36), .row 0 5 1 53 (fun _ => [.int .i64 x42.fOp, .int .i64 x42.fA, .int .i64 x42.fB, .str x42.fS, .str x42.fT])] rfl (by decide) (by simp) (by intro j o hj; exact match j, hj with | 0, hj => by cases hj; rfl | 1, hj => by cases hj; exact (congrArg some (renO_row cI_pure _ _ _ _ _ _)).symm | 2, hj => by cases hj; rfl | 3, hj => by cases hj; exact (congrArg some (renO_row cI_pure _ _ _ _ _ _)).symm | j + 4, hj => by cases hj) rfl).mono (by rintro _ _ ⟨_, _, ⟨g58, g59, rfl, rfl⟩, rfl, rfl⟩; exact ⟨g58, g59, rfl, (by simp only [nxtL, putSel, List.map_cons, List.map_nil, List.drop, List.length_cons, List.length_nil, renO_row cI_pure]; rfl)⟩), ?_⟩
 rintro _ _ ⟨g58, g59, rfl, rfl⟩
 refine splitB_t ?_
 refine splitB_f ?_
 refine splitB_t ?_
 refine splitB_f ?_
 refine splitB.mk (fun hb60 => ?_) (fun hb60 => ?_)
 have hb74 := not_F hb60
 replace h := F_var hb74 h
 refine splitB_t ?_
 refine splitB_t ?_
 refine splitB_t ?_
 refine ⟨rfl, ?_⟩
 refine splitB_t ?_
 refine splitB_t ?_
 refine splitB_t ?_
 refine .direct ?_
 obtain rfl := Option.some.inj h
 replace h := hk28
 obtain rfl := Option.some.inj h
 exact ⟨[], .tup [sl 1 cI [], .bool false], [], by decide, (show 0 ≤ 0 by decide), .tup_l ⟨fz_nils, .bool_eq rfl, trivial⟩, trivial, rfl, rfl⟩
 have hb74 := not_T hb60
 replace h := T_var hb74 h
 refine ⟨rfl, ?_⟩
 refine splitB_f ?_
 refine ⟨rfl, _, rfl, ?_⟩
 refine splitB_f ?_
 obtain ⟨v61, hv62, h⟩ := bind_some h
 refine ⟨_, ACall.pure0 (ok_i_HasTarget hv62) _ rfl (fun _ => rfl), ?_⟩
 rintro _ _ ⟨rfl, rfl⟩
 refine splitB_f ?_
 refine splitB.mk (fun hb63 => ?_) (fun hb63 => ?_)
 replace h := T_var hb63 h
 refine splitB_t ?_
 refine ⟨rfl, ?_⟩
 refine splitB_t ?_
 refine ⟨rfl, _, rfl, ?_⟩
 refine splitB_t ?_
 refine splitB_t ?_
 refine ⟨rfl, ?_⟩
 refine splitB_t ?_
 refine ⟨rfl, _, rfl, ?_⟩
 refine splitB_t ?_
 obtain ⟨v64, hv65, h⟩ := bind_some h
 refine ⟨_, ACall.pure0 (ok_i_TargetChange hv65) _ rfl (fun _ => rfl), ?_⟩
 rintro _ _ ⟨rfl, rfl⟩
 refine ⟨rfl, ?_⟩
 refine ⟨rfl, ?_⟩
 refine splitB_t ?_
 refine splitB_t ?_
 obtain ⟨⟨v66, v67, v68⟩, hv69, h⟩ := bind_some h
 refine ⟨fun res h' => ∃ g70 : Nat, ∃ g71 : Nat, res = .bool v66 ∧ h' = [.row 0 6 1 33 (fun _ => [.str a0.fName, sl 2 TParam.cells a0.fParams, sl 2 TParam.cells a0.fUses, sl 1 cS a0.fSlots, .bool a0.fGen, sl 5 TIns.cells a0.fCode]), .row 0 1 1 27 (fun _ => [.own 2 g70 0 v67.length]), .row g70 1 v67.length 3 (row cI v67), .row 0 1 1 27 (fun _ => [.own 4 g71 0 v68.length]), .row g71 1 v68.length 3 (row cI v68), .row 0 5 1 53 (fun _ => [.int .i64 x42.fOp, .int .i64 x42.fA, .int .i64 x42.fB, .str x42.fS, .str x42.fT])], (ACall.over (ok_i_HeightsOf_c1 (g1000 := 0) (g1001 := g58) (g1002 := 0) (g1003 := g59) hv69) [1, 2, 3, 4] [.row 0 6 1 33 (fun _ => [.str a0.fName, sl 2 TParam.cells a0.fParams, sl 2 TParam.cells a0.fUses, sl 1 cS a0.fSlots, .bool a0.fGen, sl 5 TIns.cells a0.fCode]), .row 0 1 1 27 (fun _ => [.own 2 g58 0 v55.length]), .row g58 1 v55.length 3 (row cI v55), .row 0 1 1 27 (fun _ => [.own 4 g59 0 v56.length]), .row g59 1 v56.length 3 (row cI v56), .row 0 5 1 53 (fun _ => [.int .i64 x42.fOp, .int .i64 x42.fA, .int .i64 x42.fB, .str x42.fS, .str x42.fT])] rfl (by decide) (by simp) (by intro j o hj; exact match j, hj with | 0, hj => by cases hj; rfl | 1, hj => by cases hj; exact (congrArg some (renO_row cI_pure _ _ _ _ _ _)).symm | 2, hj => by cases hj; rfl | 3, hj => by cases hj; exact (congrArg some (renO_row cI_pure _ _ _ _ _ _)).symm | j + 4, hj => by cases hj) rfl).mono (by rintro _ _ ⟨_, _, ⟨g70, g71, rfl, rfl⟩, rfl, rfl⟩; exact ⟨g70, g71, rfl, (by simp only [nxtL, putSel, List.map_cons, List.map_nil, List.drop, List.length_cons, List.length_nil, renO_row cI_pure]; rfl)⟩), ?_⟩
 rintro _ _ ⟨g70, g71, rfl, rfl⟩
 refine splitB_t ?_
 refine splitB_f ?_
 refine splitB_t ?_
 refine splitB_f ?_
 refine splitB.mk (fun hb72 => ?_) (fun hb72 => ?_)
 have hb73 := not_F hb72
 replace h := F_var hb73 h
 refine .direct ?_
 obtain rfl := Option.some.inj h
 replace h := hk28
 obtain rfl := Option.some.inj h
 exact ⟨[], .tup [sl 1 cI [], .bool false], [], by decide, (show 0 ≤ 0 by decide), .tup_l ⟨fz_nils, .bool_eq rfl, trivial⟩, trivial, rfl, rfl⟩
 have hb73 := not_T hb72
 replace h := T_var hb73 h
 exact ⟨[(1, .optr 0 0 0 0), (4, .optr 1 0 0 0), (7, .optr 3 0 0 0), (8, .clo 73 [(1, 0), (3, 0)])], [.row 0 6 1 33 (fun _ => [.str a0.fName, sl 2 TParam.cells a0.fParams, sl 2 TParam.cells a0.fUses, sl 1 cS a0.fSlots, .bool a0.fGen, sl 5 TIns.cells a0.fCode]), .row 0 1 1 27 (fun _ => [.own 2 0 0 v67.length]), .row 0 1 v67.length 3 (row cI v67), .row 0 1 1 27 (fun _ => [.own 4 0 0 v68.length]), .row 0 1 v68.length 3 (row cI v68)], ⟨[0, 1, 2, 3, 4], by decide, (show 0 ≤ 5 by decide), ⟨.optr_eq rfl ⟨_, _, _, _, rfl⟩ ⟨_, _, _, _, rfl, Nat.zero_lt_one⟩ rfl rfl, .optr_eq rfl ⟨_, _, _, _, rfl⟩ ⟨_, _, _, _, rfl, Nat.zero_lt_one⟩ rfl rfl, .optr_eq rfl ⟨_, _, _, _, rfl⟩ ⟨_, _, _, _, rfl, Nat.zero_lt_one⟩ rfl rfl, (.clo_l ⟨⟨rfl, ⟨_, _, _, _, rfl⟩, ⟨_, _, _, _, rfl, Nat.zero_lt_one⟩⟩, ⟨rfl, ⟨_, _, _, _, rfl⟩, ⟨_, _, _, _, rfl, Nat.zero_lt_one⟩⟩, trivial⟩), trivial⟩, ⟨⟨fun h0 => absurd (show 0 < 0 from h0) (by decide), rfl, .inl rfl, rfl, fun _ _ => ⟨.str_eq rfl, .slc_eq rfl (fun _ _ => rfl), .slc_eq rfl (fun _ _ => rfl), .slc_eq rfl (fun _ _ => rfl), .bool_eq rfl, .slc_eq rfl (fun _ _ => rfl), trivial⟩⟩, ⟨fun h0 => absurd (show 1 < 0 from h0) (by decide), rfl, .inl rfl, rfl, fun _ _ => ⟨.own_eq rfl ⟨_, _, _, _, rfl⟩ ⟨_, _, _, _, rfl, Nat.le_of_eq (Nat.zero_add _)⟩ rfl rfl, trivial⟩⟩, ⟨fun h0 => absurd (show 2 < 0 from h0) (by decide), rfl, .inl rfl, rfl, fz_row cI_pure⟩, ⟨fun h0 => absurd (show 3 < 0 from h0) (by decide), rfl, .inl rfl, rfl, fun _ _ => ⟨.own_eq rfl ⟨_, _, _, _, rfl⟩ ⟨_, _, _, _, rfl, Nat.le_of_eq (Nat.zero_add _)⟩ rfl rfl, trivial⟩⟩, ⟨fun h0 => absurd (show 4 < 0 from h0) (by decide), rfl, .inl rfl, rfl, fz_row cI_pure⟩, trivial⟩⟩, ih31 _ _ _ h rfl⟩
 replace h := F_var hb63 h
 refine splitB_f ?_
 refine splitB_f ?_
 refine splitB_f ?_
 refine splitB_f ?_
 refine splitB_f ?_
 refine splitB_f ?_
 refine ⟨rfl, ?_⟩
 refine splitB_f ?_
 refine splitB_f ?_
 refine splitB_f ?_
 refine splitB_f ?_
 refine splitB_f ?_
 refine splitB_f ?_
 refine splitB_f ?_
 exact ⟨[(1, .optr 0 0 0 0), (4, .optr 1 0 0 0), (7, .optr 3 0 0 0), (8, .clo 73 [(1, 0), (3, 0)])], [.row 0 6 1 33 (fun _ => [.str a0.fName, sl 2 TParam.cells a0.fParams, sl 2 TParam.cells a0.fUses, sl 1 cS a0.fSlots, .bool a0.fGen, sl 5 TIns.cells a0.fCode]), .row 0 1 1 27 (fun _ => [.own 2 0 0 v55.length]), .row 0 1 v55.length 3 (row cI v55), .row 0 1 1 27 (fun _ => [.own 4 0 0 v56.length]), .row 0 1 v56.length 3 (row cI v56)], ⟨[0, 1, 2, 3, 4], by decide, (show 0 ≤ 5 by decide), ⟨.optr_eq rfl ⟨_, _, _, _, rfl⟩ ⟨_, _, _, _, rfl, Nat.zero_lt_one⟩ rfl rfl, .optr_eq rfl ⟨_, _, _, _, rfl⟩ ⟨_, _, _, _, rfl, Nat.zero_lt_one⟩ rfl rfl, .optr_eq rfl ⟨_, _, _, _, rfl⟩ ⟨_, _, _, _, rfl, Nat.zero_lt_one⟩ rfl rfl, (.clo_l ⟨⟨rfl, ⟨_, _, _, _, rfl⟩, ⟨_, _, _, _, rfl, Nat.zero_lt_one⟩⟩, ⟨rfl, ⟨_, _, _, _, rfl⟩, ⟨_, _, _, _, rfl, Nat.zero_lt_one⟩⟩, trivial⟩), trivial⟩, ⟨⟨fun h0 => absurd (show 0 < 0 from h0) (by decide), rfl, .inl rfl, rfl, fun _ _ => ⟨.str_eq rfl, .slc_eq rfl (fun _ _ => rfl), .slc_eq rfl (fun _ _ => rfl), .slc_eq rfl (fun _ _ => rfl), .bool_eq rfl, .slc_eq rfl (fun _ _ => rfl), trivial⟩⟩, ⟨fun h0 => absurd (show 1 < 0 from h0) (by decide), rfl, .inl rfl, rfl, fun _ _ => ⟨.own_eq rfl ⟨_, _, _, _, rfl⟩ ⟨_, _, _, _, rfl, Nat.le_of_eq (Nat.zero_add _)⟩ rfl rfl, trivial⟩⟩, ⟨fun h0 => absurd (show 2 < 0 from h0) (by decide), rfl, .inl rfl, rfl, fz_row cI_pure⟩, ⟨fun h0 => absurd (show 3 < 0 from h0) (by decide), rfl, .inl rfl, rfl, fun _ _ => ⟨.own_eq rfl ⟨_, _, _, _, rfl⟩ ⟨_, _, _, _, rfl, Nat.le_of_eq (Nat.zero_add _)⟩ rfl rfl, trivial⟩⟩, ⟨fun h0 => absurd (show 4 < 0 from h0) (by decide), rfl, .inl rfl, rfl, fz_row cI_pure⟩, trivial⟩⟩, ih31 _ _ _ h rfl⟩
 have hb88 := not_T hb51
 replace h := T_var hb88 h
 refine splitB_f ?_
 refine splitB_f ?_
 refine splitB_f ?_
 refine splitB_f ?_
 refine splitB_f ?_
 refine splitB_f ?_
 refine splitB_f ?_
 refine splitB_f ?_
 refine splitB_f ?_
 refine splitB_f ?_
 refine splitB_f ?_
 refine splitB_f ?_
 refine ⟨rfl, ?_⟩
 refine splitB_f ?_
 refine ⟨rfl, _, rfl, ?_⟩
 refine splitB_f ?_
 obtain ⟨v75, hv76, h⟩ := bind_some h
 refine ⟨_, ACall.pure0 (ok_i_HasTarget hv76) _ rfl (fun _ => rfl), ?_⟩
 rintro _ _ ⟨rfl, rfl⟩
 refine splitB_f ?_
 refine splitB.mk (fun hb77 => ?_) (fun hb77 => ?_)
 replace h := T_var hb77 h
 refine splitB_t ?_
 refine ⟨rfl, ?_⟩
 refine splitB_t ?_
 refine ⟨rfl, _, rfl, ?_⟩
 refine splitB_t ?_
 refine splitB_t ?_
 refine ⟨rfl, ?_⟩
 refine splitB_t ?_
 refine ⟨rfl, _, rfl, ?_⟩
 refine splitB_t ?_
 obtain ⟨v78, hv79, h⟩ := bind_some h
 refine ⟨_, ACall.pure0 (ok_i_TargetChange hv79) _ rfl (fun _ => rfl), ?_⟩
 rintro _ _ ⟨rfl, rfl⟩
 refine ⟨rfl, ?_⟩
 refine ⟨rfl, ?_⟩
 refine splitB_t ?_
 refine splitB_t ?_
 obtain ⟨⟨v80, v81, v82⟩, hv83, h⟩ := bind_some h
 refine ⟨fun res h' => ∃ g84 : Nat, ∃ g85 : Nat, res = .bool v80 ∧ h' = [.row 0 6 1 33 (fun _ => [.str a0.fName, sl 2 TParam.cells a0.fParams, sl 2 TParam.cells a0.fUses, sl 1 cS a0.fSlots, .bool a0.fGen, sl 5 TIns.cells a0.fCode]), .row 0 1 1 27 (fun _ => [.own 2 g84 0 v81.length]), .row g84 1 v81.length 3 (row cI v81), .row 0 1 1 27 (fun _ => [.own 4 g85 0 v82.length]), .row g85 1 v82.length 3 (row cI v82), .row 0 5 1 53 (fun _ => [.int .i64 x42.fOp, .int .i64 x42.fA, .int .i64 x42.fB, .str x42.fS, .str x42.fT])], (ACall.over (ok_i_HeightsOf_c1 (g1000 := 0) (g1001 := 0) (g1002 := 0) (g1003 := 0) hv83) [1, 2, 3, 4] [.row 0 6 1 33 (fun _ => [.str a0.fName, sl 2 TParam.cells a0.fParams, sl 2 TParam.cells a0.fUses, sl 1 cS a0.fSlots, .bool a0.fGen, sl 5 TIns.cells a0.fCode]), .row 0 1 1 27 (fun _ => [.own 2 0 0 l29.length]), .row 0 1 l29.length 3 (row cI l29), .row 0 1 1 27 (fun _ => [.own 4 0 0 l36.length]), .row 0 1 l36.length 3 (row cI l36), .row 0 5 1 53 (fun _ => [.int .i64 x42.fOp, .int .i64 x42.fA, .int .i64 x42.fB, .str x42.fS, .str x42.fT])] rfl (by decide) (by simp) (by intro j o hj; exact match j, hj with | 0, hj => by cases hj; rfl | 1, hj => by cases hj; exact (congrArg some (renO_row cI_pure _ _ _ _ _ _)).symm | 2, hj => by cases hj; rfl | 3, hj => by cases hj; exact (congrArg some (renO_row cI_pure _ _ _ _ _ _)).symm | j + 4, hj => by cases hj) rfl).mono (by rintro _ _ ⟨_, _, ⟨g84, g85, rfl, rfl⟩, rfl, rfl⟩; exact ⟨g84, g85, rfl, (by simp only [nxtL, putSel, List.map_cons, List.map_nil, List.drop, List.length_cons, List.length_nil, renO_row cI_pure]; rfl)⟩), ?_⟩
 rintro _ _ ⟨g84, g85, rfl, rfl⟩
 refine splitB_t ?_
 refine splitB_f ?_
 refine splitB_t ?_
 refine splitB_f ?_
 refine splitB.mk (fun hb86 => ?_) (fun hb86 => ?_)
 have hb87 := not_F hb86
 replace h := F_var hb87 h
 refine .direct ?_
 obtain rfl := Option.some.inj h
 replace h := hk28
 obtain rfl := Option.some.inj h
 exact ⟨[], .tup [sl 1 cI [], .bool false], [], by decide, (show 0 ≤ 0 by decide), .tup_l ⟨fz_nils, .bool_eq rfl, trivial⟩, trivial, rfl, rfl⟩
 have hb87 := not_T hb86
 replace h := T_var hb87 h
 exact ⟨[(1, .optr 0 0 0 0), (4, .optr 1 0 0 0), (7, .optr 3 0 0 0), (8, .clo 73 [(1, 0), (3, 0)])], [.row 0 6 1 33 (fun _ => [.str a0.fName, sl 2 TParam.cells a0.fParams, sl 2 TParam.cells a0.fUses, sl 1 cS a0.fSlots, .bool a0.fGen, sl 5 TIns.cells a0.fCode]), .row 0 1 1 27 (fun _ => [.own 2 0 0 v81.length]), .row 0 1 v81.length 3 (row cI v81), .row 0 1 1 27 (fun _ => [.own 4 0 0 v82.length]), .row 0 1 v82.length 3 (row cI v82)], ⟨[0, 1, 2, 3, 4], by decide, (show 0 ≤ 5 by decide), ⟨.optr_eq rfl ⟨_, _, _, _, rfl⟩ ⟨_, _, _, _, rfl, Nat.zero_lt_one⟩ rfl rfl, .optr_eq rfl ⟨_, _, _, _, rfl⟩ ⟨_, _, _, _, rfl, Nat.zero_lt_one⟩ rfl rfl, .optr_eq rfl ⟨_, _, _, _, rfl⟩ ⟨_, _, _, _, rfl, Nat.zero_lt_one⟩ rfl rfl, (.clo_l ⟨⟨rfl, ⟨_, _, _, _, rfl⟩, ⟨_, _, _, _, rfl, Nat.zero_lt_one⟩⟩, ⟨rfl, ⟨_, _, _, _, rfl⟩, ⟨_, _, _, _, rfl, Nat.zero_lt_one⟩⟩, trivial⟩), trivial⟩, ⟨⟨fun h0 => absurd (show 0 < 0 from h0) (by decide), rfl, .inl rfl, rfl, fun _ _ => ⟨.str_eq rfl, .slc_eq rfl (fun _ _ => rfl), .slc_eq rfl (fun _ _ => rfl), .slc_eq rfl (fun _ _ => rfl), .bool_eq rfl, .slc_eq rfl (fun _ _ => rfl), trivial⟩⟩, ⟨fun h0 => absurd (show 1 < 0 from h0) (by decide), rfl, .inl rfl, rfl, fun _ _ => ⟨.own_eq rfl ⟨_, _, _, _, rfl⟩ ⟨_, _, _, _, rfl, Nat.le_of_eq (Nat.zero_add _)⟩ rfl rfl, trivial⟩⟩, ⟨fun h0 => absurd (show 2 < 0 from h0) (by decide), rfl, .inl rfl, rfl, fz_row cI_pure⟩, ⟨fun h0 => absurd (show 3 < 0 from h0) (by decide), rfl, .inl rfl, rfl, fun _ _ => ⟨.own_eq rfl ⟨_, _, _, _, rfl⟩ ⟨_, _, _, _, rfl, Nat.le_of_eq (Nat.zero_add _)⟩ rfl rfl, trivial⟩⟩, ⟨fun h0 => absurd (show 4 < 0 from h0) (by decide), rfl, .inl rfl, rfl, fz_row cI_pure⟩, trivial⟩⟩, ih31 _ _ _ h rfl⟩
 replace h := F_var hb77 h
 refine splitB_f ?_
 refine splitB_f ?_
 refine splitB_f ?_
 refine splitB_f ?_
 refine splitB_f ?_
 refine splitB_f ?_
 refine ⟨rfl, ?_⟩
 refine splitB_f ?_
 refine splitB_f ?_
 refine splitB_f ?_
 refine splitB_f ?_
 refine splitB_f ?_
 refine splitB_f ?_
 refine splitB_f ?_
 exact ⟨[(1, .optr 0 0 0 0), (4, .optr 1 0 0 0), (7, .optr 3 0 0 0), (8, .clo 73 [(1, 0), (3, 0)])], [.row 0 6 1 33 (fun _ => [.str a0.fName, sl 2 TParam.cells a0.fParams, sl 2 TParam.cells a0.fUses, sl 1 cS a0.fSlots, .bool a0.fGen, sl 5 TIns.cells a0.fCode]), .row 0 1 1 27 (fun _ => [.own 2 0 0 l29.length]), .row 0 1 l29.length 3 (row cI l29), .row 0 1 1 27 (fun _ => [.own 4 0 0 l36.length]), .row 0 1 l36.length 3 (row cI l36)], ⟨[0, 1, 2, 3, 4], by decide, (show 0 ≤ 5 by decide), ⟨.optr_eq rfl ⟨_, _, _, _, rfl⟩ ⟨_, _, _, _, rfl, Nat.zero_lt_one⟩ rfl rfl, .optr_eq rfl ⟨_, _, _, _, rfl⟩ ⟨_, _, _, _, rfl, Nat.zero_lt_one⟩ rfl rfl, .optr_eq rfl ⟨_, _, _, _, rfl⟩ ⟨_, _, _, _, rfl, Nat.zero_lt_one⟩ rfl rfl, (.clo_l ⟨⟨rfl, ⟨_, _, _, _, rfl⟩, ⟨_, _, _, _, rfl, Nat.zero_lt_one⟩⟩, ⟨rfl, ⟨_, _, _, _, rfl⟩, ⟨_, _, _, _, rfl, Nat.zero_lt_one⟩⟩, trivial⟩), trivial⟩, ⟨⟨fun h0 => absurd (show 0 < 0 from h0) (by decide), rfl, .inl rfl, rfl, fun _ _ => ⟨.str_eq rfl, .slc_eq rfl (fun _ _ => rfl), .slc_eq rfl (fun _ _ => rfl), .slc_eq rfl (fun _ _ => rfl), .bool_eq rfl, .slc_eq rfl (fun _ _ => rfl), trivial⟩⟩, ⟨fun h0 => absurd (show 1 < 0 from h0) (by decide), rfl, .inl rfl, rfl, fun _ _ => ⟨.own_eq rfl ⟨_, _, _, _, rfl⟩ ⟨_, _, _, _, rfl, Nat.le_of_eq (Nat.zero_add _)⟩ rfl rfl, trivial⟩⟩, ⟨fun h0 => absurd (show 2 < 0 from h0) (by decide), rfl, .inl rfl, rfl, fz_row cI_pure⟩, ⟨fun h0 => absurd (show 3 < 0 from h0) (by decide), rfl, .inl rfl, rfl, fun _ _ => ⟨.own_eq rfl ⟨_, _, _, _, rfl⟩ ⟨_, _, _, _, rfl, Nat.le_of_eq (Nat.zero_add _)⟩ rfl rfl, trivial⟩⟩, ⟨fun h0 => absurd (show 4 < 0 from h0) (by decide), rfl, .inl rfl, rfl, fz_row cI_pure⟩, trivial⟩⟩, ih31 _ _ _ h rfl⟩
 replace h := F_dec hb33 h
 exact ⟨[(4, .optr 0 0 0 0)], [.row 0 1 1 27 (fun _ => [.own 1 0 0 l29.length]), .row 0 1 l29.length 3 (row cI l29)], ⟨[1, 2], by decide, (show 0 ≤ 2 by decide), ⟨.optr_eq rfl ⟨_, _, _, _, rfl⟩ ⟨_, _, _, _, rfl, Nat.zero_lt_one⟩ rfl rfl, trivial⟩, ⟨⟨fun h0 => absurd (show 0 < 0 from h0) (by decide), rfl, .inl rfl, rfl, fun _ _ => ⟨.own_eq rfl ⟨_, _, _, _, rfl⟩ ⟨_, _, _, _, rfl, Nat.le_of_eq (Nat.zero_add _)⟩ rfl rfl, trivial⟩⟩, ⟨fun h0 => absurd (show 1 < 0 from h0) (by decide), rfl, .inl rfl, rfl, fz_row cI_pure⟩, trivial⟩⟩, l29, Option.some.inj h, rfl, rfl⟩
 rintro _ _ ⟨l25, rfl, rfl, rfl⟩
 replace h := hk28
 refine .direct ?_
 refine ⟨rfl, _, rfl, ?_⟩
 obtain rfl := Option.some.inj h
 exact ⟨[], .tup [sl 1 cI l25, .bool true], [], by decide, (show 0 ≤ 0 by decide), .tup_l ⟨(fz_frz cI_pure (by first | decide | simp) rfl shows_all), .bool_eq rfl, trivial⟩, trivial, rfl, rfl⟩
def m_s_l27Give (a0 : List Int) (a1 : Int) (a2 : Int) : Option (Bool × Bool × (List Int)) :=
 ((
 (if a1 ≥ (a0.length : Int) then
 some (.inr (false, false, a0))
 else
 m_s_l1In a2 0 500 >>= fun v5 =>
 (if v5 = true then
 idx a0 a1 >>= fun x8 =>
 (if x8 ≥ 0 then
 idx a0 a1 >>= fun x11 =>
 (if x11 = a2 then
 some (.inl ())
 else
 some (.inr (false, false, a0)))
 else
 some (.inl ()))
 else
 some (.inr (false, false, a0))))
 : Option ((Unit) ⊕ (Bool × Bool × (List Int)))) >>= fun o1 => match o1 with
 | .inr r => some r
 | .inl _ =>
 idx a0 a1 >>= fun x15 =>
 idx a0 a1 >>= fun x17 =>
 some ((decide (x15 < 0)), true, (a0.set a1.toNat a2))
 )
theorem ok_s_l27Give {a0 : List Int} {a1 : Int} {a2 : Int} {r : Bool × Bool × (List Int)} {g1000 : Nat} (h : m_s_l27Give a0 a1 a2 = some r) : ACall Try.prog 62 [.own 0 g1000 0 a0.length, .int .i64 a1, .int .i64 a2] [.row g1000 1 a0.length 3 (row cI a0)] (fun res h => res = .tup [.bool r.1, .bool r.2.1] ∧ h = [.row g1000 1 a0.length 3 (row cI r.2.2)]) := by
 refine ACall.of_vc tabT_ok mixed Try.func62 rfl (by kernel_rfl) _ _ _ rfl (by kernel_rfl) ?_
 unfold m_s_l27Give at h
 refine .direct ?_
 obtain ⟨o1, ho2, hk3⟩ := bind_some h
 replace h := ho2
 refine .cut (fun σ η => .inl () = o1 ∧ σ = [(0, .own 0 g1000 0 a0.length), (1, .int .i64 a1), (2, .int .i64 a2)] ∧ η = [.row g1000 1 a0.length 3 (row cI a0)]) ?_ ?_
 refine .direct ?_
 refine ⟨rfl, ?_⟩
 refine splitB.mk (fun hb4 => ?_) (fun hb4 => ?_)
 replace h := T_dec hb4 h
 refine splitB_t ?_
 refine splitB_t ?_
 refine splitB_t ?_
 refine splitB_t ?_
 refine splitB_t ?_
 refine splitB_t ?_
 refine splitB_t ?_
 refine splitB_t ?_
 refine splitB_t ?_
 refine splitB_t ?_
 refine splitB_t ?_
 refine splitB_t ?_
 refine .direct ?_
 obtain rfl := Option.some.inj h
 replace h := hk3
 obtain rfl := Option.some.inj h
 exact ⟨[0], .tup [.bool false, .bool false], [.row g1000 1 a0.length 3 (row cI a0)], by decide, (show 1 ≤ 1 by decide), .tup_l ⟨.bool_eq rfl, .bool_eq rfl, trivial⟩, ⟨⟨fun _ => ⟨rfl, rfl⟩, rfl, .inl rfl, rfl, fz_row cI_pure⟩, trivial⟩, rfl, rfl⟩
 replace h := F_dec hb4 h
 refine splitB_f ?_
 obtain ⟨v5, hv6, h⟩ := bind_some h
 refine ⟨_, ACall.pure0 (ok_s_l1In hv6) _ rfl (fun _ => rfl), ?_⟩
 rintro _ _ ⟨rfl, rfl⟩
 refine splitB_f ?_
 refine splitB_f ?_
 refine splitB.mk (fun hb7 => ?_) (fun hb7 => ?_)
 have hb14 := not_F hb7
 replace h := F_var hb14 h
 refine splitB_t ?_
 refine splitB_t ?_
 refine splitB_t ?_
 refine splitB_t ?_
 refine splitB_t ?_
 refine splitB_t ?_
 refine splitB_t ?_
 refine splitB_t ?_
 refine .direct ?_
 obtain rfl := Option.some.inj h
 replace h := hk3
 obtain rfl := Option.some.inj h
 exact ⟨[0], .tup [.bool false, .bool false], [.row g1000 1 a0.length 3 (row cI a0)], by decide, (show 1 ≤ 1 by decide), .tup_l ⟨.bool_eq rfl, .bool_eq rfl, trivial⟩, ⟨⟨fun _ => ⟨rfl, rfl⟩, rfl, .inl rfl, rfl, fz_row cI_pure⟩, trivial⟩, rfl, rfl⟩
 have hb14 := not_T hb7
 replace h := T_var hb14 h
 refine splitB_f ?_
 refine splitB_f ?_
 obtain ⟨x8, hx9, h⟩ := bind_some h
 refine ⟨rfl, idx_bd hx9, _, Nat.zero_add _, ?_⟩
 refine splitB_f ?_
 refine ⟨rfl, _, ((idx_row hx9).trans rfl), ?_⟩
 refine splitB_f ?_
 refine splitB_f ?_
 refine splitB.mk (fun hb10 => ?_) (fun hb10 => ?_)
 replace h := T_dec hb10 h
 refine splitB_t ?_
 refine splitB_t ?_
 obtain ⟨x11, hx12, h⟩ := bind_some h
 refine ⟨rfl, idx_bd hx12, _, Nat.zero_add _, ?_⟩
 refine splitB_t ?_
 refine ⟨rfl, _, ((idx_row hx12).trans rfl), ?_⟩
 refine splitB_t ?_
 refine splitB_t ?_
 refine splitB_f ?_
 refine splitB_t ?_
 refine splitB_f ?_
 refine splitB.mk (fun hb13 => ?_) (fun hb13 => ?_)
 replace h := T_bne hb13 h
 refine .direct ?_
 obtain rfl := Option.some.inj h
 replace h := hk3
 obtain rfl := Option.some.inj h
 exact ⟨[0], .tup [.bool false, .bool false], [.row g1000 1 a0.length 3 (row cI a0)], by decide, (show 1 ≤ 1 by decide), .tup_l ⟨.bool_eq rfl, .bool_eq rfl, trivial⟩, ⟨⟨fun _ => ⟨rfl, rfl⟩, rfl, .inl rfl, rfl, fz_row cI_pure⟩, trivial⟩, rfl, rfl⟩
 replace h := F_bne hb13 h
 exact ⟨[(0, .own 0 g1000 0 a0.length), (1, .int .i64 a1), (2, .int .i64 a2)], [.row g1000 1 a0.length 3 (row cI a0)], ⟨[0], by decide, (show 1 ≤ 1 by decide), ⟨.own_eq rfl ⟨_, _, _, _, rfl⟩ ⟨_, _, _, _, rfl, Nat.le_of_eq (Nat.zero_add _)⟩ rfl rfl, .int_eq rfl, .int_eq rfl, trivial⟩, ⟨⟨fun _ => ⟨rfl, rfl⟩, rfl, .inl rfl, rfl, fz_row cI_pure⟩, trivial⟩⟩, Option.some.inj h, rfl, rfl⟩
 replace h := F_dec hb10 h
 refine splitB_f ?_
 refine splitB_f ?_
 refine splitB_f ?_
 refine splitB_f ?_
 refine splitB_f ?_
 refine splitB_f ?_
 refine splitB_f ?_
 refine splitB_f ?_
 refine splitB_f ?_
 exact ⟨[(0, .own 0 g1000 0 a0.length), (1, .int .i64 a1), (2, .int .i64 a2)], [.row g1000 1 a0.length 3 (row cI a0)], ⟨[0], by decide, (show 1 ≤ 1 by decide), ⟨.own_eq rfl ⟨_, _, _, _, rfl⟩ ⟨_, _, _, _, rfl, Nat.le_of_eq (Nat.zero_add _)⟩ rfl rfl, .int_eq rfl, .int_eq rfl, trivial⟩, ⟨⟨fun _ => ⟨rfl, rfl⟩, rfl, .inl rfl, rfl, fz_row cI_pure⟩, trivial⟩⟩, Option.some.inj h, rfl, rfl⟩
 rintro _ _ ⟨rfl, rfl, rfl⟩
 replace h := hk3
 refine .direct ?_
 obtain ⟨x15, hx16, h⟩ := bind_some h
 refine ⟨rfl, idx_bd hx16, _, Nat.zero_add _, ?_⟩
 refine ⟨rfl, _, ((idx_row hx16).trans rfl), ?_⟩
 refine .direct ?_
 obtain ⟨x17, hx18, h⟩ := bind_some h
 refine ⟨rfl, idx_bd hx18, _, Nat.zero_add _, ?_⟩
 refine ⟨rfl, _, row cI (a0.set a1.toNat a2), ((idx_row hx18).trans rfl), row_set (idx_lt hx18) rfl ⟨.same _, trivial⟩, ?_⟩
 refine .direct ?_
 obtain rfl := Option.some.inj h
 exact ⟨[0], .tup [.bool (decide (x15 < 0)), .bool true], [.row g1000 1 a0.length 3 (row cI (a0.set a1.toNat a2))], by decide, (show 1 ≤ 1 by decide), .tup_l ⟨.bool_eq rfl, .bool_eq rfl, trivial⟩, ⟨⟨fun _ => ⟨rfl, rfl⟩, rfl, .inl (by simp), rfl, fz_row cI_pure⟩, trivial⟩, rfl, rfl⟩
end Go.Am
