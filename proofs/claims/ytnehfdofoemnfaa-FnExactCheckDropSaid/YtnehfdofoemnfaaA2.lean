/- Models of Go functions, and their walks. (Printed by tools/mg.py.) -/
import Derived.Test.YtnehfdofoemnfaaA1
set_option linter.unusedVariables false
set_option linter.unusedSimpArgs false
namespace Go.Am
open Go Go.RowKit Go.Proofs

def m_i_HasTarget (a0 : Int) : Option (Bool) :=
 (if a0 = 27 then
 some true
 else
 (if a0 = 28 then
 some true
 else
 (if a0 = 29 then
 some true
 else
 (if a0 = 44 then
 some true
 else
 (if a0 = 45 then
 some true
 else
 (if a0 = 49 then
 some true
 else
 (if a0 = 52 then
 some true
 else
 some false)))))))
theorem ok_i_HasTarget {a0 : Int} {r : Bool} (h : m_i_HasTarget a0 = some r) : ACall Try.prog 43 [.int .i64 a0] [] (fun res h => res = .bool r ∧ h = []) := by
 refine ACall.of_vc tabT_ok mixed Try.func43 rfl (by kernel_rfl) _ _ _ rfl (by kernel_rfl) ?_
 unfold m_i_HasTarget at h
 refine .direct ?_
 refine .direct ?_
 refine .direct ?_
 refine .direct ?_
 refine .direct ?_
 refine splitB.mk (fun hb1 => ?_) (fun hb1 => ?_)
 replace h := T_beq hb1 h
 refine splitB_kt hb1 ?_
 refine .direct ?_
 obtain rfl := Option.some.inj h
 exact ⟨[], .bool true, [], by decide, (show 0 ≤ 0 by decide), .bool_eq rfl, trivial, rfl, rfl⟩
 replace h := F_beq hb1 h
 refine .direct ?_
 refine splitB.mk (fun hb2 => ?_) (fun hb2 => ?_)
 replace h := T_beq hb2 h
 refine splitB_kt hb2 ?_
 refine .direct ?_
 obtain rfl := Option.some.inj h
 exact ⟨[], .bool true, [], by decide, (show 0 ≤ 0 by decide), .bool_eq rfl, trivial, rfl, rfl⟩
 replace h := F_beq hb2 h
 refine .direct ?_
 refine splitB.mk (fun hb3 => ?_) (fun hb3 => ?_)
 replace h := T_beq hb3 h
 refine splitB_kt hb3 ?_
 refine .direct ?_
 obtain rfl := Option.some.inj h
 exact ⟨[], .bool true, [], by decide, (show 0 ≤ 0 by decide), .bool_eq rfl, trivial, rfl, rfl⟩
 replace h := F_beq hb3 h
 refine .direct ?_
 refine splitB.mk (fun hb4 => ?_) (fun hb4 => ?_)
 replace h := T_beq hb4 h
 refine splitB_kt hb4 ?_
 refine .direct ?_
 obtain rfl := Option.some.inj h
 exact ⟨[], .bool true, [], by decide, (show 0 ≤ 0 by decide), .bool_eq rfl, trivial, rfl, rfl⟩
 replace h := F_beq hb4 h
 refine .direct ?_
 refine splitB.mk (fun hb5 => ?_) (fun hb5 => ?_)
 replace h := T_beq hb5 h
 refine splitB_kt hb5 ?_
 refine .direct ?_
 obtain rfl := Option.some.inj h
 exact ⟨[], .bool true, [], by decide, (show 0 ≤ 0 by decide), .bool_eq rfl, trivial, rfl, rfl⟩
 replace h := F_beq hb5 h
 refine .direct ?_
 refine splitB.mk (fun hb6 => ?_) (fun hb6 => ?_)
 replace h := T_beq hb6 h
 refine splitB_kt hb6 ?_
 refine .direct ?_
 obtain rfl := Option.some.inj h
 exact ⟨[], .bool true, [], by decide, (show 0 ≤ 0 by decide), .bool_eq rfl, trivial, rfl, rfl⟩
 replace h := F_beq hb6 h
 refine splitB.mk (fun hb7 => ?_) (fun hb7 => ?_)
 replace h := T_beq hb7 h
 refine .direct ?_
 obtain rfl := Option.some.inj h
 exact ⟨[], .bool true, [], by decide, (show 0 ≤ 0 by decide), .bool_eq rfl, trivial, rfl, rfl⟩
 replace h := F_beq hb7 h
 refine .direct ?_
 obtain rfl := Option.some.inj h
 exact ⟨[], .bool false, [], by decide, (show 0 ≤ 0 by decide), .bool_eq rfl, trivial, rfl, rfl⟩
def m_i_IsFinal (a0 : Int) : Option (Bool) :=
 (if a0 = 27 then
 some true
 else
 (if a0 = 42 then
 some true
 else
 (if a0 = 43 then
 some true
 else
 some (a0 == 49))))
theorem ok_i_IsFinal {a0 : Int} {r : Bool} (h : m_i_IsFinal a0 = some r) : ACall Try.prog 75 [.int .i64 a0] [] (fun res h => res = .bool r ∧ h = []) := by
 refine ACall.of_vc tabT_ok mixed Try.func75 rfl (by kernel_rfl) _ _ _ rfl (by kernel_rfl) ?_
 unfold m_i_IsFinal at h
 refine .direct ?_
 refine .direct ?_
 refine splitB.mk (fun hb1 => ?_) (fun hb1 => ?_)
 replace h := T_beq hb1 h
 refine splitB_t ?_
 refine splitB_t ?_
 refine splitB_t ?_
 refine splitB_t ?_
 refine splitB_t ?_
 refine splitB_t ?_
 refine splitB_t ?_
 refine splitB_t ?_
 obtain rfl := Option.some.inj h
 exact ⟨[], .bool true, [], by decide, (show 0 ≤ 0 by decide), .bool_eq rfl, trivial, rfl, rfl⟩
 replace h := F_beq hb1 h
 refine splitB_f ?_
 refine splitB_f ?_
 refine splitB.mk (fun hb2 => ?_) (fun hb2 => ?_)
 replace h := T_beq hb2 h
 refine splitB_t ?_
 refine splitB_t ?_
 refine splitB_t ?_
 refine splitB_t ?_
 refine splitB_t ?_
 obtain rfl := Option.some.inj h
 exact ⟨[], .bool true, [], by decide, (show 0 ≤ 0 by decide), .bool_eq rfl, trivial, rfl, rfl⟩
 replace h := F_beq hb2 h
 refine splitB_f ?_
 refine splitB_f ?_
 refine splitB.mk (fun hb3 => ?_) (fun hb3 => ?_)
 replace h := T_beq hb3 h
 refine splitB_t ?_
 refine splitB_t ?_
 obtain rfl := Option.some.inj h
 exact ⟨[], .bool true, [], by decide, (show 0 ≤ 0 by decide), .bool_eq rfl, trivial, rfl, rfl⟩
 replace h := F_beq hb3 h
 refine splitB_f ?_
 refine splitB_f ?_
 obtain rfl := Option.some.inj h
 exact ⟨[], .bool (a0 == 49), [], by decide, (show 0 ≤ 0 by decide), .bool_eq rfl, trivial, rfl, rfl⟩
def m_i_InsNeed (a0 : TIns) : Option (Int) :=
 (
 (if a0.fOp = 6 then
 some (a0.fOp == 6)
 else
 (if a0.fOp = 8 then
 some (a0.fOp == 8)
 else
 (if a0.fOp = 10 then
 some (a0.fOp == 10)
 else
 (if a0.fOp = 11 then
 some (a0.fOp == 11)
 else
 (if a0.fOp = 13 then
 some (a0.fOp == 13)
 else
 (if a0.fOp = 17 then
 some (a0.fOp == 17)
 else
 (if a0.fOp = 28 then
 some (a0.fOp == 28)
 else
 (if a0.fOp = 29 then
 some (a0.fOp == 29)
 else
 (if a0.fOp = 30 then
 some (a0.fOp == 30)
 else
 (if a0.fOp = 33 then
 some (a0.fOp == 33)
 else
 (if a0.fOp = 34 then
 some (a0.fOp == 34)
 else
 (if a0.fOp = 37 then
 some (a0.fOp == 37)
 else
 (if a0.fOp = 42 then
 some (a0.fOp == 42)
 else
 (if a0.fOp = 43 then
 some (a0.fOp == 43)
 else
 (if a0.fOp = 50 then
 some (a0.fOp == 50)
 else
 some (a0.fOp == 54))))))))))))))))
 : Option (Bool)) >>= fun b1 =>
 (if b1 = true then
 some 1
 else
 (
 (if a0.fOp = 12 then
 some (a0.fOp == 12)
 else
 (if a0.fOp = 16 then
 some (a0.fOp == 16)
 else
 (if a0.fOp = 41 then
 some (a0.fOp == 41)
 else
 (if a0.fOp = 51 then
 some (a0.fOp == 51)
 else
 (if a0.fOp = 52 then
 some (a0.fOp == 52)
 else
 some (a0.fOp == 53))))))
 : Option (Bool)) >>= fun b21 =>
 (if b21 = true then
 some 2
 else
 (if a0.fOp = 15 then
 some (W64 (2 + a0.fB))
 else
 (
 (if a0.fOp = 18 then
 some (a0.fOp == 18)
 else
 some (a0.fOp == 19))
 : Option (Bool)) >>= fun b32 =>
 (if b32 = true then
 some (W64 ((W64 (a0.fB.tdiv 2)) + 1))
 else
 (if a0.fOp = 20 then
 some (W64 ((W64 (a0.fB.tdiv 2)) + 2))
 else
 (if a0.fOp = 21 then
 some a0.fB
 else
 (if a0.fOp = 22 then
 some a0.fB
 else
 (if a0.fOp = 23 then
 some (W64 (a0.fB + 1))
 else
 some 0))))))))
theorem ok_i_InsNeed {a0 : TIns} {r : Int} (h : m_i_InsNeed a0 = some r) : ACall Try.prog 74 [.agg [.int .i64 a0.fOp, .int .i64 a0.fA, .int .i64 a0.fB, .str a0.fS, .str a0.fT]] [] (fun res h => res = .int .i64 r ∧ h = []) := by
 refine ACall.of_vc tabT_ok mixed Try.func74 rfl (by kernel_rfl) _ _ _ rfl (by kernel_rfl) ?_
 unfold m_i_InsNeed at h
 refine .direct ?_
 refine .direct ?_
 refine .direct ?_
 refine ⟨rfl, ?_⟩
 refine ⟨rfl, _, rfl, ?_⟩
 obtain ⟨o2, ho3, hk4⟩ := bind_some h
 replace h := ho3
 refine .cut (fun σ η => ∃ b1, b1 = o2 ∧ σ = [(1, .optr 0 0 0 0), (4, .int .i64 a0.fOp), (5, .bool b1)] ∧ η = [.row 0 5 1 53 (fun _ => [.int .i64 a0.fOp, .int .i64 a0.fA, .int .i64 a0.fB, .str a0.fS, .str a0.fT])]) ?_ ?_
 refine .direct ?_
 refine splitB.mk (fun hb5 => ?_) (fun hb5 => ?_)
 replace h := T_beq hb5 h
 exact ⟨[(1, .optr 0 0 0 0), (4, .int .i64 a0.fOp), (5, .bool (a0.fOp == 6))], [.row 0 5 1 53 (fun _ => [.int .i64 a0.fOp, .int .i64 a0.fA, .int .i64 a0.fB, .str a0.fS, .str a0.fT])], ⟨[0], by decide, (show 0 ≤ 1 by decide), ⟨.optr_eq rfl ⟨_, _, _, _, rfl⟩ ⟨_, _, _, _, rfl, Nat.zero_lt_one⟩ rfl rfl, .int_eq rfl, .bool_eq rfl, trivial⟩, ⟨⟨fun h0 => absurd (show 0 < 0 from h0) (by decide), rfl, .inl rfl, rfl, fun _ _ => ⟨.int_eq rfl, .int_eq rfl, .int_eq rfl, .str_eq rfl, .str_eq rfl, trivial⟩⟩, trivial⟩⟩, (a0.fOp == 6), Option.some.inj h, rfl, rfl⟩
 replace h := F_beq hb5 h
 refine .direct ?_
 refine splitB.mk (fun hb6 => ?_) (fun hb6 => ?_)
 replace h := T_beq hb6 h
 exact ⟨[(1, .optr 0 0 0 0), (4, .int .i64 a0.fOp), (5, .bool (a0.fOp == 8))], [.row 0 5 1 53 (fun _ => [.int .i64 a0.fOp, .int .i64 a0.fA, .int .i64 a0.fB, .str a0.fS, .str a0.fT])], ⟨[0], by decide, (show 0 ≤ 1 by decide), ⟨.optr_eq rfl ⟨_, _, _, _, rfl⟩ ⟨_, _, _, _, rfl, Nat.zero_lt_one⟩ rfl rfl, .int_eq rfl, .bool_eq rfl, trivial⟩, ⟨⟨fun h0 => absurd (show 0 < 0 from h0) (by decide), rfl, .inl rfl, rfl, fun _ _ => ⟨.int_eq rfl, .int_eq rfl, .int_eq rfl, .str_eq rfl, .str_eq rfl, trivial⟩⟩, trivial⟩⟩, (a0.fOp == 8), Option.some.inj h, rfl, rfl⟩
 replace h := F_beq hb6 h
 refine .direct ?_
 refine splitB.mk (fun hb7 => ?_) (fun hb7 => ?_)
 replace h := T_beq hb7 h
 exact ⟨[(1, .optr 0 0 0 0), (4, .int .i64 a0.fOp), (5, .bool (a0.fOp == 10))], [.row 0 5 1 53 (fun _ => [.int .i64 a0.fOp, .int .i64 a0.fA, .int .i64 a0.fB, .str a0.fS, .str a0.fT])], ⟨[0], by decide, (show 0 ≤ 1 by decide), ⟨.optr_eq rfl ⟨_, _, _, _, rfl⟩ ⟨_, _, _, _, rfl, Nat.zero_lt_one⟩ rfl rfl, .int_eq rfl, .bool_eq rfl, trivial⟩, ⟨⟨fun h0 => absurd (show 0 < 0 from h0) (by decide), rfl, .inl rfl, rfl, fun _ _ => ⟨.int_eq rfl, .int_eq rfl, .int_eq rfl, .str_eq rfl, .str_eq rfl, trivial⟩⟩, trivial⟩⟩, (a0.fOp == 10), Option.some.inj h, rfl, rfl⟩
 replace h := F_beq hb7 h
 refine .direct ?_
 refine splitB.mk (fun hb8 => ?_) (fun hb8 => ?_)
 replace h := T_beq hb8 h
 exact ⟨[(1, .optr 0 0 0 0), (4, .int .i64 a0.fOp), (5, .bool (a0.fOp == 11))], [.row 0 5 1 53 (fun _ => [.int .i64 a0.fOp, .int .i64 a0.fA, .int .i64 a0.fB, .str a0.fS, .str a0.fT])], ⟨[0], by decide, (show 0 ≤ 1 by decide), ⟨.optr_eq rfl ⟨_, _, _, _, rfl⟩ ⟨_, _, _, _, rfl, Nat.zero_lt_one⟩ rfl rfl, .int_eq rfl, .bool_eq rfl, trivial⟩, ⟨⟨fun h0 => absurd (show 0 < 0 from h0) (by decide), rfl, .inl rfl, rfl, fun _ _ => ⟨.int_eq rfl, .int_eq rfl, .int_eq rfl, .str_eq rfl, .str_eq rfl, trivial⟩⟩, trivial⟩⟩, (a0.fOp == 11), Option.some.inj h, rfl, rfl⟩
 replace h := F_beq hb8 h
 refine .direct ?_
 refine splitB.mk (fun hb9 => ?_) (fun hb9 => ?_)
 replace h := T_beq hb9 h
 exact ⟨[(1, .optr 0 0 0 0), (4, .int .i64 a0.fOp), (5, .bool (a0.fOp == 13))], [.row 0 5 1 53 (fun _ => [.int .i64 a0.fOp, .int .i64 a0.fA, .int .i64 a0.fB, .str a0.fS, .str a0.fT])], ⟨[0], by decide, (show 0 ≤ 1 by decide), ⟨.optr_eq rfl ⟨_, _, _, _, rfl⟩ ⟨_, _, _, _, rfl, Nat.zero_lt_one⟩ rfl rfl, .int_eq rfl, .bool_eq rfl, trivial⟩, ⟨⟨fun h0 => absurd (show 0 < 0 from h0) (by decide), rfl, .inl rfl, rfl, fun _ _ => ⟨.int_eq rfl, .int_eq rfl, .int_eq rfl, .str_eq rfl, .str_eq rfl, trivial⟩⟩, trivial⟩⟩, (a0.fOp == 13), Option.some.inj h, rfl, rfl⟩
 replace h := F_beq hb9 h
 refine .direct ?_
 refine splitB.mk (fun hb10 => ?_) (fun hb10 => ?_)
 replace h := T_beq hb10 h
 exact ⟨[(1, .optr 0 0 0 0), (4, .int .i64 a0.fOp), (5, .bool (a0.fOp == 17))], [.row 0 5 1 53 (fun _ => [.int .i64 a0.fOp, .int .i64 a0.fA, .int .i64 a0.fB, .str a0.fS, .str a0.fT])], ⟨[0], by decide, (show 0 ≤ 1 by decide), ⟨.optr_eq rfl ⟨_, _, _, _, rfl⟩ ⟨_, _, _, _, rfl, Nat.zero_lt_one⟩ rfl rfl, .int_eq rfl, .bool_eq rfl, trivial⟩, ⟨⟨fun h0 => absurd (show 0 < 0 from h0) (by decide), rfl, .inl rfl, rfl, fun _ _ => ⟨.int_eq rfl, .int_eq rfl, .int_eq rfl, .str_eq rfl, .str_eq rfl, trivial⟩⟩, trivial⟩⟩, (a0.fOp == 17), Option.some.inj h, rfl, rfl⟩
 replace h := F_beq hb10 h
 refine .direct ?_
 refine splitB.mk (fun hb11 => ?_) (fun hb11 => ?_)
 replace h := T_beq hb11 h
 exact ⟨[(1, .optr 0 0 0 0), (4, .int .i64 a0.fOp), (5, .bool (a0.fOp == 28))], [.row 0 5 1 53 (fun _ => [.int .i64 a0.fOp, .int .i64 a0.fA, .int .i64 a0.fB, .str a0.fS, .str a0.fT])], ⟨[0], by decide, (show 0 ≤ 1 by decide), ⟨.optr_eq rfl ⟨_, _, _, _, rfl⟩ ⟨_, _, _, _, rfl, Nat.zero_lt_one⟩ rfl rfl, .int_eq rfl, .bool_eq rfl, trivial⟩, ⟨⟨fun h0 => absurd (show 0 < 0 from h0) (by decide), rfl, .inl rfl, rfl, fun _ _ => ⟨.int_eq rfl, .int_eq rfl, .int_eq rfl, .str_eq rfl, .str_eq rfl, trivial⟩⟩, trivial⟩⟩, (a0.fOp == 28), Option.some.inj h, rfl, rfl⟩
 replace h := F_beq hb11 h
 refine .direct ?_
 refine splitB.mk (fun hb12 => ?_) (fun hb12 => ?_)
 replace h := T_beq hb12 h
 exact ⟨[(1, .optr 0 0 0 0), (4, .int .i64 a0.fOp), (5, .bool (a0.fOp == 29))], [.row 0 5 1 53 (fun _ => [.int .i64 a0.fOp, .int .i64 a0.fA, .int .i64 a0.fB, .str a0.fS, .str a0.fT])], ⟨[0], by decide, (show 0 ≤ 1 by decide), ⟨.optr_eq rfl ⟨_, _, _, _, rfl⟩ ⟨_, _, _, _, rfl, Nat.zero_lt_one⟩ rfl rfl, .int_eq rfl, .bool_eq rfl, trivial⟩, ⟨⟨fun h0 => absurd (show 0 < 0 from h0) (by decide), rfl, .inl rfl, rfl, fun _ _ => ⟨.int_eq rfl, .int_eq rfl, .int_eq rfl, .str_eq rfl, .str_eq rfl, trivial⟩⟩, trivial⟩⟩, (a0.fOp == 29), Option.some.inj h, rfl, rfl⟩
 replace h := F_beq hb12 h
 refine .direct ?_
 refine splitB.mk (fun hb13 => ?_) (fun hb13 => ?_)
 replace h := T_beq hb13 h
 exact ⟨[(1, .optr 0 0 0 0), (4, .int .i64 a0.fOp), (5, .bool (a0.fOp == 30))], [.row 0 5 1 53 (fun _ => [.int .i64 a0.fOp, .int .i64 a0.fA, .int .i64 a0.fB, .str a0.fS, .str a0.fT])], ⟨[0], by decide, (show 0 ≤ 1 by decide), ⟨.optr_eq rfl ⟨_, _, _, _, rfl⟩ ⟨_, _, _, _, rfl, Nat.zero_lt_one⟩ rfl rfl, .int_eq rfl, .bool_eq rfl, trivial⟩, ⟨⟨fun h0 => absurd (show 0 < 0 from h0) (by decide), rfl, .inl rfl, rfl, fun _ _ => ⟨.int_eq rfl, .int_eq rfl, .int_eq rfl, .str_eq rfl, .str_eq rfl, trivial⟩⟩, trivial⟩⟩, (a0.fOp == 30), Option.some.inj h, rfl, rfl⟩
 replace h := F_beq hb13 h
 refine .direct ?_
 refine splitB.mk (fun hb14 => ?_) (fun hb14 => ?_)
 replace h := T_beq hb14 h
 exact ⟨[(1, .optr 0 0 0 0), (4, .int .i64 a0.fOp), (5, .bool (a0.fOp == 33))], [.row 0 5 1 53 (fun _ => [.int .i64 a0.fOp, .int .i64 a0.fA, .int .i64 a0.fB, .str a0.fS, .str a0.fT])], ⟨[0], by decide, (show 0 ≤ 1 by decide), ⟨.optr_eq rfl ⟨_, _, _, _, rfl⟩ ⟨_, _, _, _, rfl, Nat.zero_lt_one⟩ rfl rfl, .int_eq rfl, .bool_eq rfl, trivial⟩, ⟨⟨fun h0 => absurd (show 0 < 0 from h0) (by decide), rfl, .inl rfl, rfl, fun _ _ => ⟨.int_eq rfl, .int_eq rfl, .int_eq rfl, .str_eq rfl, .str_eq rfl, trivial⟩⟩, trivial⟩⟩, (a0.fOp == 33), Option.some.inj h, rfl, rfl⟩
 replace h := F_beq hb14 h
 refine .direct ?_
 refine splitB.mk (fun hb15 => ?_) (fun hb15 => ?_)
 replace h := T_beq hb15 h
 exact ⟨[(1, .optr 0 0 0 0), (4, .int .i64 a0.fOp), (5, .bool (a0.fOp == 34))], [.row 0 5 1 53 (fun _ => [.int .i64 a0.fOp, .int .i64 a0.fA, .int .i64 a0.fB, .str a0.fS, .str a0.fT])], ⟨[0], by decide, (show 0 ≤ 1 by decide), ⟨.optr_eq rfl ⟨_, _, _, _, rfl⟩ ⟨_, _, _, _, rfl, Nat.zero_lt_one⟩ rfl rfl, .int_eq rfl, .bool_eq rfl, trivial⟩, ⟨⟨fun h0 => absurd (show 0 < 0 from h0) (by decide), rfl, .inl rfl, rfl, fun _ _ => ⟨.int_eq rfl, .int_eq rfl, .int_eq rfl, .str_eq rfl, .str_eq rfl, trivial⟩⟩, trivial⟩⟩, (a0.fOp == 34), Option.some.inj h, rfl, rfl⟩
 replace h := F_beq hb15 h
 refine .direct ?_
 refine splitB.mk (fun hb16 => ?_) (fun hb16 => ?_)
 replace h := T_beq hb16 h
 exact ⟨[(1, .optr 0 0 0 0), (4, .int .i64 a0.fOp), (5, .bool (a0.fOp == 37))], [.row 0 5 1 53 (fun _ => [.int .i64 a0.fOp, .int .i64 a0.fA, .int .i64 a0.fB, .str a0.fS, .str a0.fT])], ⟨[0], by decide, (show 0 ≤ 1 by decide), ⟨.optr_eq rfl ⟨_, _, _, _, rfl⟩ ⟨_, _, _, _, rfl, Nat.zero_lt_one⟩ rfl rfl, .int_eq rfl, .bool_eq rfl, trivial⟩, ⟨⟨fun h0 => absurd (show 0 < 0 from h0) (by decide), rfl, .inl rfl, rfl, fun _ _ => ⟨.int_eq rfl, .int_eq rfl, .int_eq rfl, .str_eq rfl, .str_eq rfl, trivial⟩⟩, trivial⟩⟩, (a0.fOp == 37), Option.some.inj h, rfl, rfl⟩
 replace h := F_beq hb16 h
 refine .direct ?_
 refine splitB.mk (fun hb17 => ?_) (fun hb17 => ?_)
 replace h := T_beq hb17 h
 exact ⟨[(1, .optr 0 0 0 0), (4, .int .i64 a0.fOp), (5, .bool (a0.fOp == 42))], [.row 0 5 1 53 (fun _ => [.int .i64 a0.fOp, .int .i64 a0.fA, .int .i64 a0.fB, .str a0.fS, .str a0.fT])], ⟨[0], by decide, (show 0 ≤ 1 by decide), ⟨.optr_eq rfl ⟨_, _, _, _, rfl⟩ ⟨_, _, _, _, rfl, Nat.zero_lt_one⟩ rfl rfl, .int_eq rfl, .bool_eq rfl, trivial⟩, ⟨⟨fun h0 => absurd (show 0 < 0 from h0) (by decide), rfl, .inl rfl, rfl, fun _ _ => ⟨.int_eq rfl, .int_eq rfl, .int_eq rfl, .str_eq rfl, .str_eq rfl, trivial⟩⟩, trivial⟩⟩, (a0.fOp == 42), Option.some.inj h, rfl, rfl⟩
 replace h := F_beq hb17 h
 refine .direct ?_
 refine splitB.mk (fun hb18 => ?_) (fun hb18 => ?_)
 replace h := T_beq hb18 h
 exact ⟨[(1, .optr 0 0 0 0), (4, .int .i64 a0.fOp), (5, .bool (a0.fOp == 43))], [.row 0 5 1 53 (fun _ => [.int .i64 a0.fOp, .int .i64 a0.fA, .int .i64 a0.fB, .str a0.fS, .str a0.fT])], ⟨[0], by decide, (show 0 ≤ 1 by decide), ⟨.optr_eq rfl ⟨_, _, _, _, rfl⟩ ⟨_, _, _, _, rfl, Nat.zero_lt_one⟩ rfl rfl, .int_eq rfl, .bool_eq rfl, trivial⟩, ⟨⟨fun h0 => absurd (show 0 < 0 from h0) (by decide), rfl, .inl rfl, rfl, fun _ _ => ⟨.int_eq rfl, .int_eq rfl, .int_eq rfl, .str_eq rfl, .str_eq rfl, trivial⟩⟩, trivial⟩⟩, (a0.fOp == 43), Option.some.inj h, rfl, rfl⟩
 replace h := F_beq hb18 h
 refine .direct ?_
 refine splitB.mk (fun hb19 => ?_) (fun hb19 => ?_)
 replace h := T_beq hb19 h
 exact ⟨[(1, .optr 0 0 0 0), (4, .int .i64 a0.fOp), (5, .bool (a0.fOp == 50))], [.row 0 5 1 53 (fun _ => [.int .i64 a0.fOp, .int .i64 a0.fA, .int .i64 a0.fB, .str a0.fS, .str a0.fT])], ⟨[0], by decide, (show 0 ≤ 1 by decide), ⟨.optr_eq rfl ⟨_, _, _, _, rfl⟩ ⟨_, _, _, _, rfl, Nat.zero_lt_one⟩ rfl rfl, .int_eq rfl, .bool_eq rfl, trivial⟩, ⟨⟨fun h0 => absurd (show 0 < 0 from h0) (by decide), rfl, .inl rfl, rfl, fun _ _ => ⟨.int_eq rfl, .int_eq rfl, .int_eq rfl, .str_eq rfl, .str_eq rfl, trivial⟩⟩, trivial⟩⟩, (a0.fOp == 50), Option.some.inj h, rfl, rfl⟩
 replace h := F_beq hb19 h
 exact ⟨[(1, .optr 0 0 0 0), (4, .int .i64 a0.fOp), (5, .bool (a0.fOp == 54))], [.row 0 5 1 53 (fun _ => [.int .i64 a0.fOp, .int .i64 a0.fA, .int .i64 a0.fB, .str a0.fS, .str a0.fT])], ⟨[0], by decide, (show 0 ≤ 1 by decide), ⟨.optr_eq rfl ⟨_, _, _, _, rfl⟩ ⟨_, _, _, _, rfl, Nat.zero_lt_one⟩ rfl rfl, .int_eq rfl, .bool_eq rfl, trivial⟩, ⟨⟨fun h0 => absurd (show 0 < 0 from h0) (by decide), rfl, .inl rfl, rfl, fun _ _ => ⟨.int_eq rfl, .int_eq rfl, .int_eq rfl, .str_eq rfl, .str_eq rfl, trivial⟩⟩, trivial⟩⟩, (a0.fOp == 54), Option.some.inj h, rfl, rfl⟩
 rintro _ _ ⟨b1, rfl, rfl, rfl⟩
 replace h := hk4
 refine splitB.mk (fun hb20 => ?_) (fun hb20 => ?_)
 replace h := T_var hb20 h
 refine .direct ?_
 obtain rfl := Option.some.inj h
 exact ⟨[], .int .i64 1, [], by decide, (show 0 ≤ 0 by decide), .int_eq rfl, trivial, rfl, rfl⟩
 replace h := F_var hb20 h
 obtain ⟨o22, ho23, hk24⟩ := bind_some h
 replace h := ho23
 refine .cut (fun σ η => ∃ b21, b21 = o22 ∧ σ = [(1, .optr 0 0 0 0), (4, .int .i64 a0.fOp), (22, .bool b21)] ∧ η = [.row 0 5 1 53 (fun _ => [.int .i64 a0.fOp, .int .i64 a0.fA, .int .i64 a0.fB, .str a0.fS, .str a0.fT])]) ?_ ?_
 refine .direct ?_
 refine splitB.mk (fun hb25 => ?_) (fun hb25 => ?_)
 replace h := T_beq hb25 h
 exact ⟨[(1, .optr 0 0 0 0), (4, .int .i64 a0.fOp), (22, .bool (a0.fOp == 12))], [.row 0 5 1 53 (fun _ => [.int .i64 a0.fOp, .int .i64 a0.fA, .int .i64 a0.fB, .str a0.fS, .str a0.fT])], ⟨[0], by decide, (show 0 ≤ 1 by decide), ⟨.optr_eq rfl ⟨_, _, _, _, rfl⟩ ⟨_, _, _, _, rfl, Nat.zero_lt_one⟩ rfl rfl, .int_eq rfl, .bool_eq rfl, trivial⟩, ⟨⟨fun h0 => absurd (show 0 < 0 from h0) (by decide), rfl, .inl rfl, rfl, fun _ _ => ⟨.int_eq rfl, .int_eq rfl, .int_eq rfl, .str_eq rfl, .str_eq rfl, trivial⟩⟩, trivial⟩⟩, (a0.fOp == 12), Option.some.inj h, rfl, rfl⟩
 replace h := F_beq hb25 h
 refine .direct ?_
 refine splitB.mk (fun hb26 => ?_) (fun hb26 => ?_)
 replace h := T_beq hb26 h
 exact ⟨[(1, .optr 0 0 0 0), (4, .int .i64 a0.fOp), (22, .bool (a0.fOp == 16))], [.row 0 5 1 53 (fun _ => [.int .i64 a0.fOp, .int .i64 a0.fA, .int .i64 a0.fB, .str a0.fS, .str a0.fT])], ⟨[0], by decide, (show 0 ≤ 1 by decide), ⟨.optr_eq rfl ⟨_, _, _, _, rfl⟩ ⟨_, _, _, _, rfl, Nat.zero_lt_one⟩ rfl rfl, .int_eq rfl, .bool_eq rfl, trivial⟩, ⟨⟨fun h0 => absurd (show 0 < 0 from h0) (by decide), rfl, .inl rfl, rfl, fun _ _ => ⟨.int_eq rfl, .int_eq rfl, .int_eq rfl, .str_eq rfl, .str_eq rfl, trivial⟩⟩, trivial⟩⟩, (a0.fOp == 16), Option.some.inj h, rfl, rfl⟩
 replace h := F_beq hb26 h
 refine .direct ?_
 refine splitB.mk (fun hb27 => ?_) (fun hb27 => ?_)
 replace h := T_beq hb27 h
 exact ⟨[(1, .optr 0 0 0 0), (4, .int .i64 a0.fOp), (22, .bool (a0.fOp == 41))], [.row 0 5 1 53 (fun _ => [.int .i64 a0.fOp, .int .i64 a0.fA, .int .i64 a0.fB, .str a0.fS, .str a0.fT])], ⟨[0], by decide, (show 0 ≤ 1 by decide), ⟨.optr_eq rfl ⟨_, _, _, _, rfl⟩ ⟨_, _, _, _, rfl, Nat.zero_lt_one⟩ rfl rfl, .int_eq rfl, .bool_eq rfl, trivial⟩, ⟨⟨fun h0 => absurd (show 0 < 0 from h0) (by decide), rfl, .inl rfl, rfl, fun _ _ => ⟨.int_eq rfl, .int_eq rfl, .int_eq rfl, .str_eq rfl, .str_eq rfl, trivial⟩⟩, trivial⟩⟩, (a0.fOp == 41), Option.some.inj h, rfl, rfl⟩
 replace h := F_beq hb27 h
 refine .direct ?_
 refine splitB.mk (fun hb28 => ?_) (fun hb28 => ?_)
 replace h := T_beq hb28 h
 exact ⟨[(1, .optr 0 0 0 0), (4, .int .i64 a0.fOp), (22, .bool (a0.fOp == 51))], [.row 0 5 1 53 (fun _ => [.int .i64 a0.fOp, .int .i64 a0.fA, .int .i64 a0.fB, .str a0.fS, .str a0.fT])], ⟨[0], by decide, (show 0 ≤ 1 by decide), ⟨.optr_eq rfl ⟨_, _, _, _, rfl⟩ ⟨_, _, _, _, rfl, Nat.zero_lt_one⟩ rfl rfl, .int_eq rfl, .bool_eq rfl, trivial⟩, ⟨⟨fun h0 => absurd (show 0 < 0 from h0) (by decide), rfl, .inl rfl, rfl, fun _ _ => ⟨.int_eq rfl, .int_eq rfl, .int_eq rfl, .str_eq rfl, .str_eq rfl, trivial⟩⟩, trivial⟩⟩, (a0.fOp == 51), Option.some.inj h, rfl, rfl⟩
 replace h := F_beq hb28 h
 refine .direct ?_
 refine splitB.mk (fun hb29 => ?_) (fun hb29 => ?_)
 replace h := T_beq hb29 h
 exact ⟨[(1, .optr 0 0 0 0), (4, .int .i64 a0.fOp), (22, .bool (a0.fOp == 52))], [.row 0 5 1 53 (fun _ => [.int .i64 a0.fOp, .int .i64 a0.fA, .int .i64 a0.fB, .str a0.fS, .str a0.fT])], ⟨[0], by decide, (show 0 ≤ 1 by decide), ⟨.optr_eq rfl ⟨_, _, _, _, rfl⟩ ⟨_, _, _, _, rfl, Nat.zero_lt_one⟩ rfl rfl, .int_eq rfl, .bool_eq rfl, trivial⟩, ⟨⟨fun h0 => absurd (show 0 < 0 from h0) (by decide), rfl, .inl rfl, rfl, fun _ _ => ⟨.int_eq rfl, .int_eq rfl, .int_eq rfl, .str_eq rfl, .str_eq rfl, trivial⟩⟩, trivial⟩⟩, (a0.fOp == 52), Option.some.inj h, rfl, rfl⟩
 replace h := F_beq hb29 h
 exact ⟨[(1, .optr 0 0 0 0), (4, .int .i64 a0.fOp), (22, .bool (a0.fOp == 53))], [.row 0 5 1 53 (fun _ => [.int .i64 a0.fOp, .int .i64 a0.fA, .int .i64 a0.fB, .str a0.fS, .str a0.fT])], ⟨[0], by decide, (show 0 ≤ 1 by decide), ⟨.optr_eq rfl ⟨_, _, _, _, rfl⟩ ⟨_, _, _, _, rfl, Nat.zero_lt_one⟩ rfl rfl, .int_eq rfl, .bool_eq rfl, trivial⟩, ⟨⟨fun h0 => absurd (show 0 < 0 from h0) (by decide), rfl, .inl rfl, rfl, fun _ _ => ⟨.int_eq rfl, .int_eq rfl, .int_eq rfl, .str_eq rfl, .str_eq rfl, trivial⟩⟩, trivial⟩⟩, (a0.fOp == 53), Option.some.inj h, rfl, rfl⟩
 rintro _ _ ⟨b21, rfl, rfl, rfl⟩
 replace h := hk24
 refine splitB.mk (fun hb30 => ?_) (fun hb30 => ?_)
 replace h := T_var hb30 h
 refine .direct ?_
 obtain rfl := Option.some.inj h
 exact ⟨[], .int .i64 2, [], by decide, (show 0 ≤ 0 by decide), .int_eq rfl, trivial, rfl, rfl⟩
 replace h := F_var hb30 h
 refine .direct ?_
 refine splitB.mk (fun hb31 => ?_) (fun hb31 => ?_)
 replace h := T_beq hb31 h
 refine .direct ?_
 refine ⟨rfl, ?_⟩
 refine ⟨rfl, _, rfl, ?_⟩
 obtain rfl := Option.some.inj h
 exact ⟨[], .int .i64 (W64 (2 + a0.fB)), [], by decide, (show 0 ≤ 0 by decide), .int_eq rfl, trivial, rfl, rfl⟩
 replace h := F_beq hb31 h
 obtain ⟨o33, ho34, hk35⟩ := bind_some h
 replace h := ho34
 refine .cut (fun σ η => ∃ b32, b32 = o33 ∧ σ = [(1, .optr 0 0 0 0), (4, .int .i64 a0.fOp), (34, .bool b32)] ∧ η = [.row 0 5 1 53 (fun _ => [.int .i64 a0.fOp, .int .i64 a0.fA, .int .i64 a0.fB, .str a0.fS, .str a0.fT])]) ?_ ?_
 refine .direct ?_
 refine splitB.mk (fun hb36 => ?_) (fun hb36 => ?_)
 replace h := T_beq hb36 h
 exact ⟨[(1, .optr 0 0 0 0), (4, .int .i64 a0.fOp), (34, .bool (a0.fOp == 18))], [.row 0 5 1 53 (fun _ => [.int .i64 a0.fOp, .int .i64 a0.fA, .int .i64 a0.fB, .str a0.fS, .str a0.fT])], ⟨[0], by decide, (show 0 ≤ 1 by decide), ⟨.optr_eq rfl ⟨_, _, _, _, rfl⟩ ⟨_, _, _, _, rfl, Nat.zero_lt_one⟩ rfl rfl, .int_eq rfl, .bool_eq rfl, trivial⟩, ⟨⟨fun h0 => absurd (show 0 < 0 from h0) (by decide), rfl, .inl rfl, rfl, fun _ _ => ⟨.int_eq rfl, .int_eq rfl, .int_eq rfl, .str_eq rfl, .str_eq rfl, trivial⟩⟩, trivial⟩⟩, (a0.fOp == 18), Option.some.inj h, rfl, rfl⟩
 replace h := F_beq hb36 h
 exact ⟨[(1, .optr 0 0 0 0), (4, .int .i64 a0.fOp), (34, .bool (a0.fOp == 19))], [.row 0 5 1 53 (fun _ => [.int .i64 a0.fOp, .int .i64 a0.fA, .int .i64 a0.fB, .str a0.fS, .str a0.fT])], ⟨[0], by decide, (show 0 ≤ 1 by decide), ⟨.optr_eq rfl ⟨_, _, _, _, rfl⟩ ⟨_, _, _, _, rfl, Nat.zero_lt_one⟩ rfl rfl, .int_eq rfl, .bool_eq rfl, trivial⟩, ⟨⟨fun h0 => absurd (show 0 < 0 from h0) (by decide), rfl, .inl rfl, rfl, fun _ _ => ⟨.int_eq rfl, .int_eq rfl, .int_eq rfl, .str_eq rfl, .str_eq rfl, trivial⟩⟩, trivial⟩⟩, (a0.fOp == 19), Option.some.inj h, rfl, rfl⟩
 rintro _ _ ⟨b32, rfl, rfl, rfl⟩
 replace h := hk35
 refine splitB.mk (fun hb37 => ?_) (fun hb37 => ?_)
 replace h := T_var hb37 h
 refine .direct ?_
 refine ⟨rfl, ?_⟩
 refine ⟨rfl, _, rfl, ?_⟩
 refine ⟨by decide, ?_⟩
 obtain rfl := Option.some.inj h
 exact ⟨[], .int .i64 (W64 ((W64 (a0.fB.tdiv 2)) + 1)), [], by decide, (show 0 ≤ 0 by decide), .int_eq rfl, trivial, rfl, rfl⟩
 replace h := F_var hb37 h
 refine .direct ?_
 refine splitB.mk (fun hb38 => ?_) (fun hb38 => ?_)
 replace h := T_beq hb38 h
 refine .direct ?_
 refine ⟨rfl, ?_⟩
 refine ⟨rfl, _, rfl, ?_⟩
 refine ⟨by decide, ?_⟩
 obtain rfl := Option.some.inj h
 exact ⟨[], .int .i64 (W64 ((W64 (a0.fB.tdiv 2)) + 2)), [], by decide, (show 0 ≤ 0 by decide), .int_eq rfl, trivial, rfl, rfl⟩
 replace h := F_beq hb38 h
 refine .direct ?_
 refine .direct ?_
 refine splitB.mk (fun hb39 => ?_) (fun hb39 => ?_)
 replace h := T_beq hb39 h
 refine splitB_kt hb39 ?_
 refine .direct ?_
 refine ⟨rfl, ?_⟩
 refine ⟨rfl, _, rfl, ?_⟩
 obtain rfl := Option.some.inj h
 exact ⟨[], .int .i64 a0.fB, [], by decide, (show 0 ≤ 0 by decide), .int_eq rfl, trivial, rfl, rfl⟩
 replace h := F_beq hb39 h
 refine splitB.mk (fun hb40 => ?_) (fun hb40 => ?_)
 replace h := T_beq hb40 h
 refine .direct ?_
 refine ⟨rfl, ?_⟩
 refine ⟨rfl, _, rfl, ?_⟩
 obtain rfl := Option.some.inj h
 exact ⟨[], .int .i64 a0.fB, [], by decide, (show 0 ≤ 0 by decide), .int_eq rfl, trivial, rfl, rfl⟩
 replace h := F_beq hb40 h
 refine .direct ?_
 refine splitB.mk (fun hb41 => ?_) (fun hb41 => ?_)
 replace h := T_beq hb41 h
 refine .direct ?_
 refine ⟨rfl, ?_⟩
 refine ⟨rfl, _, rfl, ?_⟩
 obtain rfl := Option.some.inj h
 exact ⟨[], .int .i64 (W64 (a0.fB + 1)), [], by decide, (show 0 ≤ 0 by decide), .int_eq rfl, trivial, rfl, rfl⟩
 replace h := F_beq hb41 h
 refine .direct ?_
 obtain rfl := Option.some.inj h
 exact ⟨[], .int .i64 0, [], by decide, (show 0 ≤ 0 by decide), .int_eq rfl, trivial, rfl, rfl⟩
def m_i_InsChange (a0 : TIns) : Option (Int) :=
 (
 (if a0.fOp = 2 then
 some (a0.fOp == 2)
 else
 (if a0.fOp = 3 then
 some (a0.fOp == 3)
 else
 (if a0.fOp = 4 then
 some (a0.fOp == 4)
 else
 (if a0.fOp = 5 then
 some (a0.fOp == 5)
 else
 (if a0.fOp = 7 then
 some (a0.fOp == 7)
 else
 (if a0.fOp = 9 then
 some (a0.fOp == 9)
 else
 (if a0.fOp = 14 then
 some (a0.fOp == 14)
 else
 (if a0.fOp = 24 then
 some (a0.fOp == 24)
 else
 (if a0.fOp = 25 then
 some (a0.fOp == 25)
 else
 (if a0.fOp = 40 then
 some (a0.fOp == 40)
 else
 (if a0.fOp = 50 then
 some (a0.fOp == 50)
 else
 some (a0.fOp == 56))))))))))))
 : Option (Bool)) >>= fun b1 =>
 (if b1 = true then
 some 1
 else
 (
 (if a0.fOp = 10 then
 some (a0.fOp == 10)
 else
 (if a0.fOp = 12 then
 some (a0.fOp == 12)
 else
 (if a0.fOp = 16 then
 some (a0.fOp == 16)
 else
 (if a0.fOp = 28 then
 some (a0.fOp == 28)
 else
 (if a0.fOp = 29 then
 some (a0.fOp == 29)
 else
 (if a0.fOp = 30 then
 some (a0.fOp == 30)
 else
 (if a0.fOp = 33 then
 some (a0.fOp == 33)
 else
 (if a0.fOp = 34 then
 some (a0.fOp == 34)
 else
 (if a0.fOp = 37 then
 some (a0.fOp == 37)
 else
 (if a0.fOp = 41 then
 some (a0.fOp == 41)
 else
 (if a0.fOp = 42 then
 some (a0.fOp == 42)
 else
 some (a0.fOp == 43))))))))))))
 : Option (Bool)) >>= fun b17 =>
 (if b17 = true then
 some (-1)
 else
 (if a0.fOp = 15 then
 some (W64 ((-1) - a0.fB))
 else
 (
 (if a0.fOp = 18 then
 some (a0.fOp == 18)
 else
 some (a0.fOp == 19))
 : Option (Bool)) >>= fun b34 =>
 (if b34 = true then
 some (W64 (0 - (W64 (a0.fB.tdiv 2))))
 else
 (if a0.fOp = 20 then
 some (W64 ((W64 (0 - (W64 (a0.fB.tdiv 2)))) - 1))
 else
 (
 (if a0.fOp = 21 then
 some (a0.fOp == 21)
 else
 some (a0.fOp == 22))
 : Option (Bool)) >>= fun b41 =>
 (if b41 = true then
 some (W64 (0 - a0.fB))
 else
 (if a0.fOp = 23 then
 some (W64 ((W64 (0 - a0.fB)) - 1))
 else
 (if a0.fOp = 52 then
 some (W64 (1 + a0.fB))
 else
 (if a0.fOp = 53 then
 some (-2)
 else
 some 0)))))))))
theorem ok_i_InsChange {a0 : TIns} {r : Int} (h : m_i_InsChange a0 = some r) : ACall Try.prog 76 [.agg [.int .i64 a0.fOp, .int .i64 a0.fA, .int .i64 a0.fB, .str a0.fS, .str a0.fT]] [] (fun res h => res = .int .i64 r ∧ h = []) := by
 refine ACall.of_vc tabT_ok mixed Try.func76 rfl (by kernel_rfl) _ _ _ rfl (by kernel_rfl) ?_
 unfold m_i_InsChange at h
 refine .direct ?_
 refine .direct ?_
 refine .direct ?_
 refine ⟨rfl, ?_⟩
 refine ⟨rfl, _, rfl, ?_⟩
 obtain ⟨o2, ho3, hk4⟩ := bind_some h
 replace h := ho3
 refine .cut (fun σ η => ∃ b1, b1 = o2 ∧ σ = [(1, .optr 0 0 0 0), (4, .int .i64 a0.fOp), (5, .bool b1)] ∧ η = [.row 0 5 1 53 (fun _ => [.int .i64 a0.fOp, .int .i64 a0.fA, .int .i64 a0.fB, .str a0.fS, .str a0.fT])]) ?_ ?_
 refine .direct ?_
 refine splitB.mk (fun hb5 => ?_) (fun hb5 => ?_)
 replace h := T_beq hb5 h
 exact ⟨[(1, .optr 0 0 0 0), (4, .int .i64 a0.fOp), (5, .bool (a0.fOp == 2))], [.row 0 5 1 53 (fun _ => [.int .i64 a0.fOp, .int .i64 a0.fA, .int .i64 a0.fB, .str a0.fS, .str a0.fT])], ⟨[0], by decide, (show 0 ≤ 1 by decide), ⟨.optr_eq rfl ⟨_, _, _, _, rfl⟩ ⟨_, _, _, _, rfl, Nat.zero_lt_one⟩ rfl rfl, .int_eq rfl, .bool_eq rfl, trivial⟩, ⟨⟨fun h0 => absurd (show 0 < 0 from h0) (by decide), rfl, .inl rfl, rfl, fun _ _ => ⟨.int_eq rfl, .int_eq rfl, .int_eq rfl, .str_eq rfl, .str_eq rfl, trivial⟩⟩, trivial⟩⟩, (a0.fOp == 2), Option.some.inj h, rfl, rfl⟩
 replace h := F_beq hb5 h
 refine .direct ?_
 refine splitB.mk (fun hb6 => ?_) (fun hb6 => ?_)
 replace h := T_beq hb6 h
 exact ⟨[(1, .optr 0 0 0 0), (4, .int .i64 a0.fOp), (5, .bool (a0.fOp == 3))], [.row 0 5 1 53 (fun _ => [.int .i64 a0.fOp, .int .i64 a0.fA, .int .i64 a0.fB, .str a0.fS, .str a0.fT])], ⟨[0], by decide, (show 0 ≤ 1 by decide), ⟨.optr_eq rfl ⟨_, _, _, _, rfl⟩ ⟨_, _, _, _, rfl, Nat.zero_lt_one⟩ rfl rfl, .int_eq rfl, .bool_eq rfl, trivial⟩, ⟨⟨fun h0 => absurd (show 0 < 0 from h0) (by decide), rfl, .inl rfl, rfl, fun _ _ => ⟨.int_eq rfl, .int_eq rfl, .int_eq rfl, .str_eq rfl, .str_eq rfl, trivial⟩⟩, trivial⟩⟩, (a0.fOp == 3), Option.some.inj h, rfl, rfl⟩
 replace h := F_beq hb6 h
 refine .direct ?_
 refine splitB.mk (fun hb7 => ?_) (fun hb7 => ?_)
 replace h := T_beq hb7 h
 exact ⟨[(1, .optr 0 0 0 0), (4, .int .i64 a0.fOp), (5, .bool (a0.fOp == 4))], [.row 0 5 1 53 (fun _ => [.int .i64 a0.fOp, .int .i64 a0.fA, .int .i64 a0.fB, .str a0.fS, .str a0.fT])], ⟨[0], by decide, (show 0 ≤ 1 by decide), ⟨.optr_eq rfl ⟨_, _, _, _, rfl⟩ ⟨_, _, _, _, rfl, Nat.zero_lt_one⟩ rfl rfl, .int_eq rfl, .bool_eq rfl, trivial⟩, ⟨⟨fun h0 => absurd (show 0 < 0 from h0) (by decide), rfl, .inl rfl, rfl, fun _ _ => ⟨.int_eq rfl, .int_eq rfl, .int_eq rfl, .str_eq rfl, .str_eq rfl, trivial⟩⟩, trivial⟩⟩, (a0.fOp == 4), Option.some.inj h, rfl, rfl⟩
 replace h := F_beq hb7 h
 refine .direct ?_
 refine splitB.mk (fun hb8 => ?_) (fun hb8 => ?_)
 replace h := T_beq hb8 h
 exact ⟨[(1, .optr 0 0 0 0), (4, .int .i64 a0.fOp), (5, .bool (a0.fOp == 5))], [.row 0 5 1 53 (fun _ => [.int .i64 a0.fOp, .int .i64 a0.fA, .int .i64 a0.fB, .str a0.fS, .str a0.fT])], ⟨[0], by decide, (show 0 ≤ 1 by decide), ⟨.optr_eq rfl ⟨_, _, _, _, rfl⟩ ⟨_, _, _, _, rfl, Nat.zero_lt_one⟩ rfl rfl, .int_eq rfl, .bool_eq rfl, trivial⟩, ⟨⟨fun h0 => absurd (show 0 < 0 from h0) (by decide), rfl, .inl rfl, rfl, fun _ _ => ⟨.int_eq rfl, .int_eq rfl, .int_eq rfl, .str_eq rfl, .str_eq rfl, trivial⟩⟩, trivial⟩⟩, (a0.fOp == 5), Option.some.inj h, rfl, rfl⟩
 replace h := F_beq hb8 h
 refine .direct ?_
 refine splitB.mk (fun hb9 => ?_) (fun hb9 => ?_)
 replace h := T_beq hb9 h
 exact ⟨[(1, .optr 0 0 0 0), (4, .int .i64 a0.fOp), (5, .bool (a0.fOp == 7))], [.row 0 5 1 53 (fun _ => [.int .i64 a0.fOp, .int .i64 a0.fA, .int .i64 a0.fB, .str a0.fS, .str a0.fT])], ⟨[0], by decide, (show 0 ≤ 1 by decide), ⟨.optr_eq rfl ⟨_, _, _, _, rfl⟩ ⟨_, _, _, _, rfl, Nat.zero_lt_one⟩ rfl rfl, .int_eq rfl, .bool_eq rfl, trivial⟩, ⟨⟨fun h0 => absurd (show 0 < 0 from h0) (by decide), rfl, .inl rfl, rfl, fun _ _ => ⟨.int_eq rfl, .int_eq rfl, .int_eq rfl, .str_eq rfl, .str_eq rfl, trivial⟩⟩, trivial⟩⟩, (a0.fOp == 7), Option.some.inj h, rfl, rfl⟩
 replace h := F_beq hb9 h
 refine .direct ?_
 refine splitB.mk (fun hb10 => ?_) (fun hb10 => ?_)
 replace h := T_beq hb10 h
 exact ⟨[(1, .optr 0 0 0 0), (4, .int .i64 a0.fOp), (5, .bool (a0.fOp == 9))], [.row 0 5 1 53 (fun _ => [.int .i64 a0.fOp, .int .i64 a0.fA, .int .i64 a0.fB, .str a0.fS, .str a0.fT])], ⟨[0], by decide, (show 0 ≤ 1 by decide), ⟨.optr_eq rfl ⟨_, _, _, _, rfl⟩ ⟨_, _, _, _, rfl, Nat.zero_lt_one⟩ rfl rfl, .int_eq rfl, .bool_eq rfl, trivial⟩, ⟨⟨fun h0 => absurd (show 0 < 0 from h0) (by decide), rfl, .inl rfl, rfl, fun _ _ => ⟨.int_eq rfl, .int_eq rfl, .int_eq rfl, .str_eq rfl, .str_eq rfl, trivial⟩⟩, trivial⟩⟩, (a0.fOp == 9), Option.some.inj h, rfl, rfl⟩
 replace h := F_beq hb10 h
 refine .direct ?_
 refine splitB.mk (fun hb11 => ?_) (fun hb11 => ?_)
 replace h := T_beq hb11 h
 exact ⟨[(1, .optr 0 0 0 0), (4, .int .i64 a0.fOp), (5, .bool (a0.fOp == 14))], [.row 0 5 1 53 (fun _ => [.int .i64 a0.fOp, .int .i64 a0.fA, .int .i64 a0.fB, .str a0.fS, .str a0.fT])], ⟨[0], by decide, (show 0 ≤ 1 by decide), ⟨.optr_eq rfl ⟨_, _, _, _, rfl⟩ ⟨_, _, _, _, rfl, Nat.zero_lt_one⟩ rfl rfl, .int_eq rfl, .bool_eq rfl, trivial⟩, ⟨⟨fun h0 => absurd (show 0 < 0 from h0) (by decide), rfl, .inl rfl, rfl, fun _ _ => ⟨.int_eq rfl, .int_eq rfl, .int_eq rfl, .str_eq rfl, .str_eq rfl, trivial⟩⟩, trivial⟩⟩, (a0.fOp == 14), Option.some.inj h, rfl, rfl⟩
 replace h := F_beq hb11 h
 refine .direct ?_
 refine splitB.mk (fun hb12 => ?_) (fun hb12 => ?_)
 replace h := T_beq hb12 h
 exact ⟨[(1, .optr 0 0 0 0), (4, .int .i64 a0.fOp), (5, .bool (a0.fOp == 24))], [.row 0 5 1 53 (fun _ => [.int .i64 a0.fOp, .int .i64 a0.fA, .int .i64 a0.fB, .str a0.fS, .str a0.fT])], ⟨[0], by decide, (show 0 ≤ 1 by decide), ⟨.optr_eq rfl ⟨_, _, _, _, rfl⟩ ⟨_, _, _, _, rfl, Nat.zero_lt_one⟩ rfl rfl, .int_eq rfl, .bool_eq rfl, trivial⟩, ⟨⟨fun h0 => absurd (show 0 < 0 from h0) (by decide), rfl, .inl rfl, rfl, fun _ _ => ⟨.int_eq rfl, .int_eq rfl, .int_eq rfl, .str_eq rfl, .str_eq rfl, trivial⟩⟩, trivial⟩⟩, (a0.fOp == 24), Option.some.inj h, rfl, rfl⟩
 replace h := F_beq hb12 h
 refine .direct ?_
 refine splitB.mk (fun hb13 => ?_) (fun hb13 => ?_)
 replace h := T_beq hb13 h
 exact ⟨[(1, .optr 0 0 0 0), (4, .int .i64 a0.fOp), (5, .bool (a0.fOp == 25))], [.row 0 5 1 53 (fun _ => [.int .i64 a0.fOp, .int .i64 a0.fA, .int .i64 a0.fB, .str a0.fS, .str a0.fT])], ⟨[0], by decide, (show 0 ≤ 1 by decide), ⟨.optr_eq rfl ⟨_, _, _, _, rfl⟩ ⟨_, _, _, _, rfl, Nat.zero_lt_one⟩ rfl rfl, .int_eq rfl, .bool_eq rfl, trivial⟩, ⟨⟨fun h0 => absurd (show 0 < 0 from h0) (by decide), rfl, .inl rfl, rfl, fun _ _ => ⟨.int_eq rfl, .int_eq rfl, .int_eq rfl, .str_eq rfl, .str_eq rfl, trivial⟩⟩, trivial⟩⟩, (a0.fOp == 25), Option.some.inj h, rfl, rfl⟩
 replace h := F_beq hb13 h
 refine .direct ?_
 refine splitB.mk (fun hb14 => ?_) (fun hb14 => ?_)
 replace h := T_beq hb14 h
 exact ⟨[(1, .optr 0 0 0 0), (4, .int .i64 a0.fOp), (5, .bool (a0.fOp == 40))], [.row 0 5 1 53 (fun _ => [.int .i64 a0.fOp, .int .i64 a0.fA, .int .i64 a0.fB, .str a0.fS, .str a0.fT])], ⟨[0], by decide, (show 0 ≤ 1 by decide), ⟨.optr_eq rfl ⟨_, _, _, _, rfl⟩ ⟨_, _, _, _, rfl, Nat.zero_lt_one⟩ rfl rfl, .int_eq rfl, .bool_eq rfl, trivial⟩, ⟨⟨fun h0 => absurd (show 0 < 0 from h0) (by decide), rfl, .inl rfl, rfl, fun _ _ => ⟨.int_eq rfl, .int_eq rfl, .int_eq rfl, .str_eq rfl, .str_eq rfl, trivial⟩⟩, trivial⟩⟩, (a0.fOp == 40), Option.some.inj h, rfl, rfl⟩
 replace h := F_beq hb14 h
 refine .direct ?_
 refine splitB.mk (fun hb15 => ?_) (fun hb15 => ?_)
 replace h := T_beq hb15 h
 exact ⟨[(1, .optr 0 0 0 0), (4, .int .i64 a0.fOp), (5, .bool (a0.fOp == 50))], [.row 0 5 1 53 (fun _ => [.int .i64 a0.fOp, .int .i64 a0.fA, .int .i64 a0.fB, .str a0.fS, .str a0.fT])], ⟨[0], by decide, (show 0 ≤ 1 by decide), ⟨.optr_eq rfl ⟨_, _, _, _, rfl⟩ ⟨_, _, _, _, rfl, Nat.zero_lt_one⟩ rfl rfl, .int_eq rfl, .bool_eq rfl, trivial⟩, ⟨⟨fun h0 => absurd (show 0 < 0 from h0) (by decide), rfl, .inl rfl, rfl, fun _ _ => ⟨.int_eq rfl, .int_eq rfl, .int_eq rfl, .str_eq rfl, .str_eq rfl, trivial⟩⟩, trivial⟩⟩, (a0.fOp == 50), Option.some.inj h, rfl, rfl⟩
 replace h := F_beq hb15 h
 exact ⟨[(1, .optr 0 0 0 0), (4, .int .i64 a0.fOp), (5, .bool (a0.fOp == 56))], [.row 0 5 1 53 (fun _ => [.int .i64 a0.fOp, .int .i64 a0.fA, .int .i64 a0.fB, .str a0.fS, .str a0.fT])], ⟨[0], by decide, (show 0 ≤ 1 by decide), ⟨.optr_eq rfl ⟨_, _, _, _, rfl⟩ ⟨_, _, _, _, rfl, Nat.zero_lt_one⟩ rfl rfl, .int_eq rfl, .bool_eq rfl, trivial⟩, ⟨⟨fun h0 => absurd (show 0 < 0 from h0) (by decide), rfl, .inl rfl, rfl, fun _ _ => ⟨.int_eq rfl, .int_eq rfl, .int_eq rfl, .str_eq rfl, .str_eq rfl, trivial⟩⟩, trivial⟩⟩, (a0.fOp == 56), Option.some.inj h, rfl, rfl⟩
 rintro _ _ ⟨b1, rfl, rfl, rfl⟩
 replace h := hk4
 refine splitB.mk (fun hb16 => ?_) (fun hb16 => ?_)
 replace h := T_var hb16 h
 refine .direct ?_
 obtain rfl := Option.some.inj h
 exact ⟨[], .int .i64 1, [], by decide, (show 0 ≤ 0 by decide), .int_eq rfl, trivial, rfl, rfl⟩
 replace h := F_var hb16 h
 obtain ⟨o18, ho19, hk20⟩ := bind_some h
 replace h := ho19
 refine .cut (fun σ η => ∃ b17, b17 = o18 ∧ σ = [(1, .optr 0 0 0 0), (4, .int .i64 a0.fOp), (18, .bool b17)] ∧ η = [.row 0 5 1 53 (fun _ => [.int .i64 a0.fOp, .int .i64 a0.fA, .int .i64 a0.fB, .str a0.fS, .str a0.fT])]) ?_ ?_
 refine .direct ?_
 refine splitB.mk (fun hb21 => ?_) (fun hb21 => ?_)
 replace h := T_beq hb21 h
 exact ⟨[(1, .optr 0 0 0 0), (4, .int .i64 a0.fOp), (18, .bool (a0.fOp == 10))], [.row 0 5 1 53 (fun _ => [.int .i64 a0.fOp, .int .i64 a0.fA, .int .i64 a0.fB, .str a0.fS, .str a0.fT])], ⟨[0], by decide, (show 0 ≤ 1 by decide), ⟨.optr_eq rfl ⟨_, _, _, _, rfl⟩ ⟨_, _, _, _, rfl, Nat.zero_lt_one⟩ rfl rfl, .int_eq rfl, .bool_eq rfl, trivial⟩, ⟨⟨fun h0 => absurd (show 0 < 0 from h0) (by decide), rfl, .inl rfl, rfl, fun _ _ => ⟨.int_eq rfl, .int_eq rfl, .int_eq rfl, .str_eq rfl, .str_eq rfl, trivial⟩⟩, trivial⟩⟩, (a0.fOp == 10), Option.some.inj h, rfl, rfl⟩
 replace h := F_beq hb21 h
 refine .direct ?_
 refine splitB.mk (fun hb22 => ?_) (fun hb22 => ?_)
 replace h := T_beq hb22 h
 exact ⟨[(1, .optr 0 0 0 0), (4, .int .i64 a0.fOp), (18, .bool (a0.fOp == 12))], [.row 0 5 1 53 (fun _ => [.int .i64 a0.fOp, .int .i64 a0.fA, .int .i64 a0.fB, .str a0.fS, .str a0.fT])], ⟨[0], by decide, (show 0 ≤ 1 by decide), ⟨.optr_eq rfl ⟨_, _, _, _, rfl⟩ ⟨_, _, _, _, rfl, Nat.zero_lt_one⟩ rfl rfl, .int_eq rfl, .bool_eq rfl, trivial⟩, ⟨⟨fun h0 => absurd (show 0 < 0 from h0) (by decide), rfl, .inl rfl, rfl, fun _ _ => ⟨.int_eq rfl, .int_eq rfl, .int_eq rfl, .str_eq rfl, .str_eq rfl, trivial⟩⟩, trivial⟩⟩, (a0.fOp == 12), Option.some.inj h, rfl, rfl⟩
 replace h := F_beq hb22 h
 refine .direct ?_
 refine splitB.mk (fun hb23 => ?_) (fun hb23 => ?_)
 replace h := T_beq hb23 h
 exact ⟨[(1, .optr 0 0 0 0), (4, .int .i64 a0.fOp), (18, .bool (a0.fOp == 16))], [.row 0 5 1 53 (fun _ => [.int .i64 a0.fOp, .int .i64 a0.fA, .int .i64 a0.fB, .str a0.fS, .str a0.fT])], ⟨[0], by decide, (show 0 ≤ 1 by decide), ⟨.optr_eq rfl ⟨_, _, _, _, rfl⟩ ⟨_, _, _, _, rfl, Nat.zero_lt_one⟩ rfl rfl, .int_eq rfl, .bool_eq rfl, trivial⟩, ⟨⟨fun h0 => absurd (show 0 < 0 from h0) (by decide), rfl, .inl rfl, rfl, fun _ _ => ⟨.int_eq rfl, .int_eq rfl, .int_eq rfl, .str_eq rfl, .str_eq rfl, trivial⟩⟩, trivial⟩⟩, (a0.fOp == 16), Option.some.inj h, rfl, rfl⟩
 replace h := F_beq hb23 h
 refine .direct ?_
 refine splitB.mk (fun hb24 => ?_) (fun hb24 => ?_)
 replace h := T_beq hb24 h
 exact ⟨[(1, .optr 0 0 0 0), (4, .int .i64 a0.fOp), (18, .bool (a0.fOp == 28))], [.row 0 5 1 53 (fun _ => [.int .i64 a0.fOp, .int .i64 a0.fA, .int .i64 a0.fB, .str a0.fS, .str a0.fT])], ⟨[0], by decide, (show 0 ≤ 1 by decide), ⟨.optr_eq rfl ⟨_, _, _, _, rfl⟩ ⟨_, _, _, _, rfl, Nat.zero_lt_one⟩ rfl rfl, .int_eq rfl, .bool_eq rfl, trivial⟩, ⟨⟨fun h0 => absurd (show 0 < 0 from h0) (by decide), rfl, .inl rfl, rfl, fun _ _ => ⟨.int_eq rfl, .int_eq rfl, .int_eq rfl, .str_eq rfl, .str_eq rfl, trivial⟩⟩, trivial⟩⟩, (a0.fOp == 28), Option.some.inj h, rfl, rfl⟩
 replace h := F_beq hb24 h
 refine .direct ?_
 refine splitB.mk (fun hb25 => ?_) (fun hb25 => ?_)
 replace h := T_beq hb25 h
 exact ⟨[(1, .optr 0 0 0 0), (4, .int .i64 a0.fOp), (18, .bool (a0.fOp == 29))], [.row 0 5 1 53 (fun _ => [.int .i64 a0.fOp, .int .i64 a0.fA, .int .i64 a0.fB, .str a0.fS, .str a0.fT])], ⟨[0], by decide, (show 0 ≤ 1 by decide), ⟨.optr_eq rfl ⟨_, _, _, _, rfl⟩ ⟨_, _, _, _, rfl, Nat.zero_lt_one⟩ rfl rfl, .int_eq rfl, .bool_eq rfl, trivial⟩, ⟨⟨fun h0 => absurd (show 0 < 0 from h0) (by decide), rfl, .inl rfl, rfl, fun _ _ => ⟨.int_eq rfl, .int_eq rfl, .int_eq rfl, .str_eq rfl, .str_eq rfl, trivial⟩⟩, trivial⟩⟩, (a0.fOp == 29), Option.some.inj h, rfl, rfl⟩
 replace h := F_beq hb25 h
 refine .direct ?_
 refine splitB.mk (fun hb26 => ?_) (fun hb26 => ?_)
 replace h := T_beq hb26 h
 exact ⟨[(1, .optr 0 0 0 0), (4, .int .i64 a0.fOp), (18, .bool (a0.fOp == 30))], [.row 0 5 1 53 (fun _ => [.int .i64 a0.fOp, .int .i64 a0.fA, .int .i64 a0.fB, .str a0.fS, .str a0.fT])], ⟨[0], by decide, (show 0 ≤ 1 by decide), ⟨.optr_eq rfl ⟨_, _, _, _, rfl⟩ ⟨_, _, _, _, rfl, Nat.zero_lt_one⟩ rfl rfl, .int_eq rfl, .bool_eq rfl, trivial⟩, ⟨⟨fun h0 => absurd (show 0 < 0 from h0) (by decide), rfl, .inl rfl, rfl, fun _ _ => ⟨.int_eq rfl, .int_eq rfl, .int_eq rfl, .str_eq rfl, .str_eq rfl, trivial⟩⟩, trivial⟩⟩, (a0.fOp == 30), Option.some.inj h, rfl, rfl⟩
 replace h := F_beq hb26 h
 refine .direct ?_
 refine splitB.mk (fun hb27 => ?_) (fun hb27 => ?_)
 replace h := T_beq hb27 h
 exact ⟨[(1, .optr 0 0 0 0), (4, .int .i64 a0.fOp), (18, .bool (a0.fOp == 33))], [.row 0 5 1 53 (fun _ => [.int .i64 a0.fOp, .int .i64 a0.fA, .int .i64 a0.fB, .str a0.fS, .str a0.fT])], ⟨[0], by decide, (show 0 ≤ 1 by decide), ⟨.optr_eq rfl ⟨_, _, _, _, rfl⟩ ⟨_, _, _, _, rfl, Nat.zero_lt_one⟩ rfl rfl, .int_eq rfl, .bool_eq rfl, trivial⟩, ⟨⟨fun h0 => absurd (show 0 < 0 from h0) (by decide), rfl, .inl rfl, rfl, fun _ _ => ⟨.int_eq rfl, .int_eq rfl, .int_eq rfl, .str_eq rfl, .str_eq rfl, trivial⟩⟩, trivial⟩⟩, (a0.fOp == 33), Option.some.inj h, rfl, rfl⟩
 replace h := F_beq hb27 h
 refine .direct ?_
 refine splitB.mk (fun hb28 => ?_) (fun hb28 => ?_)
 replace h := T_beq hb28 h
 exact ⟨[(1, .optr 0 0 0 0), (4, .int .i64 a0.fOp), (18, .bool (a0.fOp == 34))], [.row 0 5 1 53 (fun _ => [.int .i64 a0.fOp, .int .i64 a0.fA, .int .i64 a0.fB, .str a0.fS, .str a0.fT])], ⟨[0], by decide, (show 0 ≤ 1 by decide), ⟨.optr_eq rfl ⟨_, _, _, _, rfl⟩ ⟨_, _, _, _, rfl, Nat.zero_lt_one⟩ rfl rfl, .int_eq rfl, .bool_eq rfl, trivial⟩, ⟨⟨fun h0 => absurd (show 0 < 0 from h0) (by decide), rfl, .inl rfl, rfl, fun _ _ => ⟨.int_eq rfl, .int_eq rfl, .int_eq rfl, .str_eq rfl, .str_eq rfl, trivial⟩⟩, trivial⟩⟩, (a0.fOp == 34), Option.some.inj h, rfl, rfl⟩
 replace h := F_beq hb28 h
 refine .direct ?_
 refine splitB.mk (fun hb29 => ?_) (fun hb29 => ?_)
 replace h := T_beq hb29 h
 exact ⟨[(1, .optr 0 0 0 0), (4, .int .i64 a0.fOp), (18, .bool (a0.fOp == 37))], [.row 0 5 1 53 (fun _ => [.int .i64 a0.fOp, .int .i64 a0.fA, .int .i64 a0.fB, .str a0.fS, .str a0.fT])], ⟨[0], by decide, (show 0 ≤ 1 by decide), ⟨.optr_eq rfl ⟨_, _, _, _, rfl⟩ ⟨_, _, _, _, rfl, Nat.zero_lt_one⟩ rfl rfl, .int_eq rfl, .bool_eq rfl, trivial⟩, ⟨⟨fun h0 => absurd (show 0 < 0 from h0) (by decide), rfl, .inl rfl, rfl, fun _ _ => ⟨.int_eq rfl, .int_eq rfl, .int_eq rfl, .str_eq rfl, .str_eq rfl, trivial⟩⟩, trivial⟩⟩, (a0.fOp == 37), Option.some.inj h, rfl, rfl⟩
 replace h := F_beq hb29 h
 refine .direct ?_
 refine splitB.mk (fun hb30 => ?_) (fun hb30 => ?_)
 replace h := T_beq hb30 h
 exact ⟨[(1, .optr 0 0 0 0), (4, .int .i64 a0.fOp), (18, .bool (a0.fOp == 41))], [.row 0 5 1 53 (fun _ => [.int .i64 a0.fOp, .int .i64 a0.fA, .int .i64 a0.fB, .str a0.fS, .str a0.fT])], ⟨[0], by decide, (show 0 ≤ 1 by decide), ⟨.optr_eq rfl ⟨_, _, _, _, rfl⟩ ⟨_, _, _, _, rfl, Nat.zero_lt_one⟩ rfl rfl, .int_eq rfl, .bool_eq rfl, trivial⟩, ⟨⟨fun h0 => absurd (show 0 < 0 from h0) (by decide), rfl, .inl rfl, rfl, fun _ _ => ⟨.int_eq rfl, .int_eq rfl, .int_eq rfl, .str_eq rfl, .str_eq rfl, trivial⟩⟩, trivial⟩⟩, (a0.fOp == 41), Option.some.inj h, rfl, rfl⟩
 replace h := F_beq hb30 h
 refine .direct ?_
 refine splitB.mk (fun hb31 => ?_) (fun hb31 => ?_)
 replace h := T_beq hb31 h
 exact ⟨[(1, .optr 0 0 0 0), (4, .int .i64 a0.fOp), (18, .bool (a0.fOp == 42))], [.row 0 5 1 53 (fun _ => [.int .i64 a0.fOp, .int .i64 a0.fA, .int .i64 a0.fB, .str a0.fS, .str a0.fT])], ⟨[0], by decide, (show 0 ≤ 1 by decide), ⟨.optr_eq rfl ⟨_, _, _, _, rfl⟩ ⟨_, _, _, _, rfl, Nat.zero_lt_one⟩ rfl rfl, .int_eq rfl, .bool_eq rfl, trivial⟩, ⟨⟨fun h0 => absurd (show 0 < 0 from h0) (by decide), rfl, .inl rfl, rfl, fun _ _ => ⟨.int_eq rfl, .int_eq rfl, .int_eq rfl, .str_eq rfl, .str_eq rfl, trivial⟩⟩, trivial⟩⟩, (a0.fOp == 42), Option.some.inj h, rfl, rfl⟩
 replace h := F_beq hb31 h
 exact ⟨[(1, .optr 0 0 0 0), (4, .int .i64 a0.fOp), (18, .bool (a0.fOp == 43))], [.row 0 5 1 53 (fun _ => [.int .i64 a0.fOp, .int .i64 a0.fA, .int .i64 a0.fB, .str a0.fS, .str a0.fT])], ⟨[0], by decide, (show 0 ≤ 1 by decide), ⟨.optr_eq rfl ⟨_, _, _, _, rfl⟩ ⟨_, _, _, _, rfl, Nat.zero_lt_one⟩ rfl rfl, .int_eq rfl, .bool_eq rfl, trivial⟩, ⟨⟨fun h0 => absurd (show 0 < 0 from h0) (by decide), rfl, .inl rfl, rfl, fun _ _ => ⟨.int_eq rfl, .int_eq rfl, .int_eq rfl, .str_eq rfl, .str_eq rfl, trivial⟩⟩, trivial⟩⟩, (a0.fOp == 43), Option.some.inj h, rfl, rfl⟩
 rintro _ _ ⟨b17, rfl, rfl, rfl⟩
 replace h := hk20
 refine splitB.mk (fun hb32 => ?_) (fun hb32 => ?_)
 replace h := T_var hb32 h
 refine .direct ?_
 obtain rfl := Option.some.inj h
 exact ⟨[], .int .i64 (-1), [], by decide, (show 0 ≤ 0 by decide), .int_eq rfl, trivial, rfl, rfl⟩
 replace h := F_var hb32 h
 refine .direct ?_
 refine splitB.mk (fun hb33 => ?_) (fun hb33 => ?_)
 replace h := T_beq hb33 h
 refine .direct ?_
 refine ⟨rfl, ?_⟩
 refine ⟨rfl, _, rfl, ?_⟩
 obtain rfl := Option.some.inj h
 exact ⟨[], .int .i64 (W64 ((-1) - a0.fB)), [], by decide, (show 0 ≤ 0 by decide), .int_eq rfl, trivial, rfl, rfl⟩
 replace h := F_beq hb33 h
 obtain ⟨o35, ho36, hk37⟩ := bind_some h
 replace h := ho36
 refine .cut (fun σ η => ∃ b34, b34 = o35 ∧ σ = [(1, .optr 0 0 0 0), (4, .int .i64 a0.fOp), (36, .bool b34)] ∧ η = [.row 0 5 1 53 (fun _ => [.int .i64 a0.fOp, .int .i64 a0.fA, .int .i64 a0.fB, .str a0.fS, .str a0.fT])]) ?_ ?_
 refine .direct ?_
 refine splitB.mk (fun hb38 => ?_) (fun hb38 => ?_)
 replace h := T_beq hb38 h
 exact ⟨[(1, .optr 0 0 0 0), (4, .int .i64 a0.fOp), (36, .bool (a0.fOp == 18))], [.row 0 5 1 53 (fun _ => [.int .i64 a0.fOp, .int .i64 a0.fA, .int .i64 a0.fB, .str a0.fS, .str a0.fT])], ⟨[0], by decide, (show 0 ≤ 1 by decide), ⟨.optr_eq rfl ⟨_, _, _, _, rfl⟩ ⟨_, _, _, _, rfl, Nat.zero_lt_one⟩ rfl rfl, .int_eq rfl, .bool_eq rfl, trivial⟩, ⟨⟨fun h0 => absurd (show 0 < 0 from h0) (by decide), rfl, .inl rfl, rfl, fun _ _ => ⟨.int_eq rfl, .int_eq rfl, .int_eq rfl, .str_eq rfl, .str_eq rfl, trivial⟩⟩, trivial⟩⟩, (a0.fOp == 18), Option.some.inj h, rfl, rfl⟩
 replace h := F_beq hb38 h
 exact ⟨[(1, .optr 0 0 0 0), (4, .int .i64 a0.fOp), (36, .bool (a0.fOp == 19))], [.row 0 5 1 53 (fun _ => [.int .i64 a0.fOp, .int .i64 a0.fA, .int .i64 a0.fB, .str a0.fS, .str a0.fT])], ⟨[0], by decide, (show 0 ≤ 1 by decide), ⟨.optr_eq rfl ⟨_, _, _, _, rfl⟩ ⟨_, _, _, _, rfl, Nat.zero_lt_one⟩ rfl rfl, .int_eq rfl, .bool_eq rfl, trivial⟩, ⟨⟨fun h0 => absurd (show 0 < 0 from h0) (by decide), rfl, .inl rfl, rfl, fun _ _ => ⟨.int_eq rfl, .int_eq rfl, .int_eq rfl, .str_eq rfl, .str_eq rfl, trivial⟩⟩, trivial⟩⟩, (a0.fOp == 19), Option.some.inj h, rfl, rfl⟩
 rintro _ _ ⟨b34, rfl, rfl, rfl⟩
 replace h := hk37
 refine splitB.mk (fun hb39 => ?_) (fun hb39 => ?_)
 replace h := T_var hb39 h
 refine .direct ?_
 refine ⟨rfl, ?_⟩
 refine ⟨rfl, _, rfl, ?_⟩
 refine ⟨by decide, ?_⟩
 obtain rfl := Option.some.inj h
 exact ⟨[], .int .i64 (W64 (0 - (W64 (a0.fB.tdiv 2)))), [], by decide, (show 0 ≤ 0 by decide), .int_eq rfl, trivial, rfl, rfl⟩
 replace h := F_var hb39 h
 refine .direct ?_
 refine splitB.mk (fun hb40 => ?_) (fun hb40 => ?_)
 replace h := T_beq hb40 h
 refine .direct ?_
 refine ⟨rfl, ?_⟩
 refine ⟨rfl, _, rfl, ?_⟩
 refine ⟨by decide, ?_⟩
 obtain rfl := Option.some.inj h
 exact ⟨[], .int .i64 (W64 ((W64 (0 - (W64 (a0.fB.tdiv 2)))) - 1)), [], by decide, (show 0 ≤ 0 by decide), .int_eq rfl, trivial, rfl, rfl⟩
 replace h := F_beq hb40 h
 obtain ⟨o42, ho43, hk44⟩ := bind_some h
 replace h := ho43
 refine .cut (fun σ η => ∃ b41, b41 = o42 ∧ σ = [(1, .optr 0 0 0 0), (4, .int .i64 a0.fOp), (50, .bool b41)] ∧ η = [.row 0 5 1 53 (fun _ => [.int .i64 a0.fOp, .int .i64 a0.fA, .int .i64 a0.fB, .str a0.fS, .str a0.fT])]) ?_ ?_
 refine .direct ?_
 refine splitB.mk (fun hb45 => ?_) (fun hb45 => ?_)
 replace h := T_beq hb45 h
 exact ⟨[(1, .optr 0 0 0 0), (4, .int .i64 a0.fOp), (50, .bool (a0.fOp == 21))], [.row 0 5 1 53 (fun _ => [.int .i64 a0.fOp, .int .i64 a0.fA, .int .i64 a0.fB, .str a0.fS, .str a0.fT])], ⟨[0], by decide, (show 0 ≤ 1 by decide), ⟨.optr_eq rfl ⟨_, _, _, _, rfl⟩ ⟨_, _, _, _, rfl, Nat.zero_lt_one⟩ rfl rfl, .int_eq rfl, .bool_eq rfl, trivial⟩, ⟨⟨fun h0 => absurd (show 0 < 0 from h0) (by decide), rfl, .inl rfl, rfl, fun _ _ => ⟨.int_eq rfl, .int_eq rfl, .int_eq rfl, .str_eq rfl, .str_eq rfl, trivial⟩⟩, trivial⟩⟩, (a0.fOp == 21), Option.some.inj h, rfl, rfl⟩
 replace h := F_beq hb45 h
 exact ⟨[(1, .optr 0 0 0 0), (4, .int .i64 a0.fOp), (50, .bool (a0.fOp == 22))], [.row 0 5 1 53 (fun _ => [.int .i64 a0.fOp, .int .i64 a0.fA, .int .i64 a0.fB, .str a0.fS, .str a0.fT])], ⟨[0], by decide, (show 0 ≤ 1 by decide), ⟨.optr_eq rfl ⟨_, _, _, _, rfl⟩ ⟨_, _, _, _, rfl, Nat.zero_lt_one⟩ rfl rfl, .int_eq rfl, .bool_eq rfl, trivial⟩, ⟨⟨fun h0 => absurd (show 0 < 0 from h0) (by decide), rfl, .inl rfl, rfl, fun _ _ => ⟨.int_eq rfl, .int_eq rfl, .int_eq rfl, .str_eq rfl, .str_eq rfl, trivial⟩⟩, trivial⟩⟩, (a0.fOp == 22), Option.some.inj h, rfl, rfl⟩
 rintro _ _ ⟨b41, rfl, rfl, rfl⟩
 replace h := hk44
 refine splitB.mk (fun hb46 => ?_) (fun hb46 => ?_)
 replace h := T_var hb46 h
 refine .direct ?_
 refine ⟨rfl, ?_⟩
 refine ⟨rfl, _, rfl, ?_⟩
 obtain rfl := Option.some.inj h
 exact ⟨[], .int .i64 (W64 (0 - a0.fB)), [], by decide, (show 0 ≤ 0 by decide), .int_eq rfl, trivial, rfl, rfl⟩
 replace h := F_var hb46 h
 refine .direct ?_
 refine splitB.mk (fun hb47 => ?_) (fun hb47 => ?_)
 replace h := T_beq hb47 h
 refine .direct ?_
 refine ⟨rfl, ?_⟩
 refine ⟨rfl, _, rfl, ?_⟩
 obtain rfl := Option.some.inj h
 exact ⟨[], .int .i64 (W64 ((W64 (0 - a0.fB)) - 1)), [], by decide, (show 0 ≤ 0 by decide), .int_eq rfl, trivial, rfl, rfl⟩
 replace h := F_beq hb47 h
 refine .direct ?_
 refine splitB.mk (fun hb48 => ?_) (fun hb48 => ?_)
 replace h := T_beq hb48 h
 refine .direct ?_
 refine ⟨rfl, ?_⟩
 refine ⟨rfl, _, rfl, ?_⟩
 obtain rfl := Option.some.inj h
 exact ⟨[], .int .i64 (W64 (1 + a0.fB)), [], by decide, (show 0 ≤ 0 by decide), .int_eq rfl, trivial, rfl, rfl⟩
 replace h := F_beq hb48 h
 refine .direct ?_
 refine splitB.mk (fun hb49 => ?_) (fun hb49 => ?_)
 replace h := T_beq hb49 h
 refine .direct ?_
 obtain rfl := Option.some.inj h
 exact ⟨[], .int .i64 (-2), [], by decide, (show 0 ≤ 0 by decide), .int_eq rfl, trivial, rfl, rfl⟩
 replace h := F_beq hb49 h
 refine .direct ?_
 obtain rfl := Option.some.inj h
 exact ⟨[], .int .i64 0, [], by decide, (show 0 ≤ 0 by decide), .int_eq rfl, trivial, rfl, rfl⟩
def m_i_TargetChange (a0 : Int) : Option (Int) :=
 (if a0 = 28 then
 some (-1)
 else
 (if a0 = 44 then
 some 1
 else
 some 0))
theorem ok_i_TargetChange {a0 : Int} {r : Int} (h : m_i_TargetChange a0 = some r) : ACall Try.prog 77 [.int .i64 a0] [] (fun res h => res = .int .i64 r ∧ h = []) := by
 refine ACall.of_vc tabT_ok mixed Try.func77 rfl (by kernel_rfl) _ _ _ rfl (by kernel_rfl) ?_
 unfold m_i_TargetChange at h
 refine .direct ?_
 refine .direct ?_
 refine .direct ?_
 refine .direct ?_
 refine splitB.mk (fun hb1 => ?_) (fun hb1 => ?_)
 replace h := T_beq hb1 h
 refine .direct ?_
 obtain rfl := Option.some.inj h
 exact ⟨[], .int .i64 (-1), [], by decide, (show 0 ≤ 0 by decide), .int_eq rfl, trivial, rfl, rfl⟩
 replace h := F_beq hb1 h
 refine .direct ?_
 refine splitB.mk (fun hb2 => ?_) (fun hb2 => ?_)
 replace h := T_beq hb2 h
 refine .direct ?_
 obtain rfl := Option.some.inj h
 exact ⟨[], .int .i64 1, [], by decide, (show 0 ≤ 0 by decide), .int_eq rfl, trivial, rfl, rfl⟩
 replace h := F_beq hb2 h
 refine .direct ?_
 obtain rfl := Option.some.inj h
 exact ⟨[], .int .i64 0, [], by decide, (show 0 ≤ 0 by decide), .int_eq rfl, trivial, rfl, rfl⟩
def m_i_slotOp (a0 : Int) : Option (Bool) :=
 (if a0 = 5 then
 some true
 else
 (if a0 = 6 then
 some true
 else
 (if a0 = 18 then
 some true
 else
 (if a0 = 21 then
 some true
 else
 (if a0 = 24 then
 some true
 else
 (if a0 = 26 then
 some true
 else
 (if a0 = 38 then
 some true
 else
 some false)))))))
theorem ok_i_slotOp {a0 : Int} {r : Bool} (h : m_i_slotOp a0 = some r) : ACall Try.prog 98 [.int .i64 a0] [] (fun res h => res = .bool r ∧ h = []) := by
 refine ACall.of_vc tabT_ok mixed Try.func98 rfl (by kernel_rfl) _ _ _ rfl (by kernel_rfl) ?_
 unfold m_i_slotOp at h
 refine .direct ?_
 refine .direct ?_
 refine .direct ?_
 refine .direct ?_
 refine .direct ?_
 refine splitB.mk (fun hb1 => ?_) (fun hb1 => ?_)
 replace h := T_beq hb1 h
 refine splitB_kt hb1 ?_
 refine .direct ?_
 obtain rfl := Option.some.inj h
 exact ⟨[], .bool true, [], by decide, (show 0 ≤ 0 by decide), .bool_eq rfl, trivial, rfl, rfl⟩
 replace h := F_beq hb1 h
 refine .direct ?_
 refine splitB.mk (fun hb2 => ?_) (fun hb2 => ?_)
 replace h := T_beq hb2 h
 refine splitB_kt hb2 ?_
 refine .direct ?_
 obtain rfl := Option.some.inj h
 exact ⟨[], .bool true, [], by decide, (show 0 ≤ 0 by decide), .bool_eq rfl, trivial, rfl, rfl⟩
 replace h := F_beq hb2 h
 refine .direct ?_
 refine splitB.mk (fun hb3 => ?_) (fun hb3 => ?_)
 replace h := T_beq hb3 h
 refine splitB_kt hb3 ?_
 refine .direct ?_
 obtain rfl := Option.some.inj h
 exact ⟨[], .bool true, [], by decide, (show 0 ≤ 0 by decide), .bool_eq rfl, trivial, rfl, rfl⟩
 replace h := F_beq hb3 h
 refine .direct ?_
 refine splitB.mk (fun hb4 => ?_) (fun hb4 => ?_)
 replace h := T_beq hb4 h
 refine splitB_kt hb4 ?_
 refine .direct ?_
 obtain rfl := Option.some.inj h
 exact ⟨[], .bool true, [], by decide, (show 0 ≤ 0 by decide), .bool_eq rfl, trivial, rfl, rfl⟩
 replace h := F_beq hb4 h
 refine .direct ?_
 refine splitB.mk (fun hb5 => ?_) (fun hb5 => ?_)
 replace h := T_beq hb5 h
 refine splitB_kt hb5 ?_
 refine .direct ?_
 obtain rfl := Option.some.inj h
 exact ⟨[], .bool true, [], by decide, (show 0 ≤ 0 by decide), .bool_eq rfl, trivial, rfl, rfl⟩
 replace h := F_beq hb5 h
 refine .direct ?_
 refine splitB.mk (fun hb6 => ?_) (fun hb6 => ?_)
 replace h := T_beq hb6 h
 refine splitB_kt hb6 ?_
 refine .direct ?_
 obtain rfl := Option.some.inj h
 exact ⟨[], .bool true, [], by decide, (show 0 ≤ 0 by decide), .bool_eq rfl, trivial, rfl, rfl⟩
 replace h := F_beq hb6 h
 refine splitB.mk (fun hb7 => ?_) (fun hb7 => ?_)
 replace h := T_beq hb7 h
 refine .direct ?_
 obtain rfl := Option.some.inj h
 exact ⟨[], .bool true, [], by decide, (show 0 ≤ 0 by decide), .bool_eq rfl, trivial, rfl, rfl⟩
 replace h := F_beq hb7 h
 refine .direct ?_
 obtain rfl := Option.some.inj h
 exact ⟨[], .bool false, [], by decide, (show 0 ≤ 0 by decide), .bool_eq rfl, trivial, rfl, rfl⟩
def m_i_knownOp (a0 : Int) : Option (Bool) :=
 m_i_InRange a0 1 56 >>= fun v1 =>
 some v1
theorem ok_i_knownOp {a0 : Int} {r : Bool} (h : m_i_knownOp a0 = some r) : ACall Try.prog 91 [.int .i64 a0] [] (fun res h => res = .bool r ∧ h = []) := by
 refine ACall.of_vc tabT_ok mixed Try.func91 rfl (by kernel_rfl) _ _ _ rfl (by kernel_rfl) ?_
 unfold m_i_knownOp at h
 refine .direct ?_
 refine .direct ?_
 obtain ⟨v1, hv2, h⟩ := bind_some h
 refine ⟨_, ACall.pure0 (ok_i_InRange hv2) _ rfl (fun _ => rfl), ?_⟩
 rintro _ _ ⟨rfl, rfl⟩
 obtain rfl := Option.some.inj h
 exact ⟨[], .bool v1, [], by decide, (show 0 ≤ 0 by decide), .bool_eq rfl, trivial, rfl, rfl⟩
def m_i_operandA (a0 : TIns) (a1 : Int) (a2 : Int) : Option (Bool) :=
 (if a0.fOp = 2 then
 m_i_InRange a0.fA 0 1000000000 >>= fun v2 =>
 some v2
 else
 (
 (if a0.fOp = 4 then
 some true
 else
 some (a0.fOp == 11))
 : Option (Bool)) >>= fun b4 =>
 (if b4 = true then
 m_i_InRange a0.fA 0 2 >>= fun v10 =>
 some v10
 else
 (if a0.fOp = 12 then
 m_i_InRange a0.fA 1 15 >>= fun v13 =>
 some v13
 else
 m_i_slotOp a0.fOp >>= fun v15 =>
 (if v15 = true then
 (if a0.fA ≥ 0 then
 some (decide (a0.fA < a1))
 else
 some false)
 else
 m_i_HasTarget a0.fOp >>= fun v19 =>
 (if v19 = true then
 (if a0.fA ≥ 0 then
 some (decide (a0.fA < a2))
 else
 some false)
 else
 some (a0.fA == 0))))))
theorem ok_i_operandA {a0 : TIns} {a1 : Int} {a2 : Int} {r : Bool} (h : m_i_operandA a0 a1 a2 = some r) : ACall Try.prog 92 [.agg [.int .i64 a0.fOp, .int .i64 a0.fA, .int .i64 a0.fB, .str a0.fS, .str a0.fT], .int .i64 a1, .int .i64 a2] [] (fun res h => res = .bool r ∧ h = []) := by
 refine ACall.of_vc tabT_ok mixed Try.func92 rfl (by kernel_rfl) _ _ _ rfl (by kernel_rfl) ?_
 unfold m_i_operandA at h
 refine .direct ?_
 refine .direct ?_
 refine .direct ?_
 refine ⟨rfl, ?_⟩
 refine ⟨rfl, _, rfl, ?_⟩
 refine splitB.mk (fun hb1 => ?_) (fun hb1 => ?_)
 replace h := T_beq hb1 h
 refine .direct ?_
 refine ⟨rfl, ?_⟩
 refine ⟨rfl, _, rfl, ?_⟩
 obtain ⟨v2, hv3, h⟩ := bind_some h
 refine ⟨_, ACall.pure0 (ok_i_InRange hv3) _ rfl (fun _ => rfl), ?_⟩
 rintro _ _ ⟨rfl, rfl⟩
 obtain rfl := Option.some.inj h
 exact ⟨[], .bool v2, [], by decide, (show 0 ≤ 0 by decide), .bool_eq rfl, trivial, rfl, rfl⟩
 replace h := F_beq hb1 h
 obtain ⟨o5, ho6, hk7⟩ := bind_some h
 replace h := ho6
 refine .cut (fun σ η => ∃ b4, b4 = o5 ∧ σ = [(1, .int .i64 a1), (2, .int .i64 a2), (3, .optr 0 0 0 0), (14, .bool b4)] ∧ η = [.row 0 5 1 53 (fun _ => [.int .i64 a0.fOp, .int .i64 a0.fA, .int .i64 a0.fB, .str a0.fS, .str a0.fT])]) ?_ ?_
 refine ⟨rfl, ?_⟩
 refine ⟨rfl, _, rfl, ?_⟩
 refine splitB.mk (fun hb8 => ?_) (fun hb8 => ?_)
 replace h := T_beq hb8 h
 refine splitB_t ?_
 refine splitB_t ?_
 refine splitB_t ?_
 exact ⟨[(1, .int .i64 a1), (2, .int .i64 a2), (3, .optr 0 0 0 0), (14, .bool true)], [.row 0 5 1 53 (fun _ => [.int .i64 a0.fOp, .int .i64 a0.fA, .int .i64 a0.fB, .str a0.fS, .str a0.fT])], ⟨[0], by decide, (show 0 ≤ 1 by decide), ⟨.int_eq rfl, .int_eq rfl, .optr_eq rfl ⟨_, _, _, _, rfl⟩ ⟨_, _, _, _, rfl, Nat.zero_lt_one⟩ rfl rfl, .bool_eq rfl, trivial⟩, ⟨⟨fun h0 => absurd (show 0 < 0 from h0) (by decide), rfl, .inl rfl, rfl, fun _ _ => ⟨.int_eq rfl, .int_eq rfl, .int_eq rfl, .str_eq rfl, .str_eq rfl, trivial⟩⟩, trivial⟩⟩, true, Option.some.inj h, rfl, rfl⟩
 replace h := F_beq hb8 h
 refine ⟨rfl, ?_⟩
 refine splitB_f ?_
 refine ⟨rfl, _, rfl, ?_⟩
 refine splitB_f ?_
 refine splitB_f ?_
 exact ⟨[(1, .int .i64 a1), (2, .int .i64 a2), (3, .optr 0 0 0 0), (14, .bool (a0.fOp == 11))], [.row 0 5 1 53 (fun _ => [.int .i64 a0.fOp, .int .i64 a0.fA, .int .i64 a0.fB, .str a0.fS, .str a0.fT])], ⟨[0], by decide, (show 0 ≤ 1 by decide), ⟨.int_eq rfl, .int_eq rfl, .optr_eq rfl ⟨_, _, _, _, rfl⟩ ⟨_, _, _, _, rfl, Nat.zero_lt_one⟩ rfl rfl, .bool_eq rfl, trivial⟩, ⟨⟨fun h0 => absurd (show 0 < 0 from h0) (by decide), rfl, .inl rfl, rfl, fun _ _ => ⟨.int_eq rfl, .int_eq rfl, .int_eq rfl, .str_eq rfl, .str_eq rfl, trivial⟩⟩, trivial⟩⟩, (a0.fOp == 11), Option.some.inj h, rfl, rfl⟩
 rintro _ _ ⟨b4, rfl, rfl, rfl⟩
 replace h := hk7
 refine splitB.mk (fun hb9 => ?_) (fun hb9 => ?_)
 replace h := T_var hb9 h
 refine .direct ?_
 refine ⟨rfl, ?_⟩
 refine ⟨rfl, _, rfl, ?_⟩
 obtain ⟨v10, hv11, h⟩ := bind_some h
 refine ⟨_, ACall.pure0 (ok_i_InRange hv11) _ rfl (fun _ => rfl), ?_⟩
 rintro _ _ ⟨rfl, rfl⟩
 obtain rfl := Option.some.inj h
 exact ⟨[], .bool v10, [], by decide, (show 0 ≤ 0 by decide), .bool_eq rfl, trivial, rfl, rfl⟩
 replace h := F_var hb9 h
 refine .direct ?_
 refine ⟨rfl, ?_⟩
 refine ⟨rfl, _, rfl, ?_⟩
 refine splitB.mk (fun hb12 => ?_) (fun hb12 => ?_)
 replace h := T_beq hb12 h
 refine .direct ?_
 refine ⟨rfl, ?_⟩
 refine ⟨rfl, _, rfl, ?_⟩
 obtain ⟨v13, hv14, h⟩ := bind_some h
 refine ⟨_, ACall.pure0 (ok_i_InRange hv14) _ rfl (fun _ => rfl), ?_⟩
 rintro _ _ ⟨rfl, rfl⟩
 obtain rfl := Option.some.inj h
 exact ⟨[], .bool v13, [], by decide, (show 0 ≤ 0 by decide), .bool_eq rfl, trivial, rfl, rfl⟩
 replace h := F_beq hb12 h
 refine .direct ?_
 refine ⟨rfl, ?_⟩
 refine ⟨rfl, _, rfl, ?_⟩
 obtain ⟨v15, hv16, h⟩ := bind_some h
 refine ⟨_, ACall.pure0 (ok_i_slotOp hv16) _ rfl (fun _ => rfl), ?_⟩
 rintro _ _ ⟨rfl, rfl⟩
 refine splitB.mk (fun hb17 => ?_) (fun hb17 => ?_)
 replace h := T_var hb17 h
 refine .direct ?_
 refine ⟨rfl, ?_⟩
 refine ⟨rfl, _, rfl, ?_⟩
 refine splitB.mk (fun hb18 => ?_) (fun hb18 => ?_)
 replace h := T_dec hb18 h
 refine ⟨rfl, ?_⟩
 refine splitB_t ?_
 refine ⟨rfl, _, rfl, ?_⟩
 refine splitB_t ?_
 refine splitB_t ?_
 refine splitB_t ?_
 obtain rfl := Option.some.inj h
 exact ⟨[], .bool (decide (a0.fA < a1)), [], by decide, (show 0 ≤ 0 by decide), .bool_eq rfl, trivial, rfl, rfl⟩
 replace h := F_dec hb18 h
 refine splitB_f ?_
 refine splitB_f ?_
 refine splitB_f ?_
 refine splitB_f ?_
 obtain rfl := Option.some.inj h
 exact ⟨[], .bool false, [], by decide, (show 0 ≤ 0 by decide), .bool_eq rfl, trivial, rfl, rfl⟩
 replace h := F_var hb17 h
 refine .direct ?_
 refine ⟨rfl, ?_⟩
 refine ⟨rfl, _, rfl, ?_⟩
 obtain ⟨v19, hv20, h⟩ := bind_some h
 refine ⟨_, ACall.pure0 (ok_i_HasTarget hv20) _ rfl (fun _ => rfl), ?_⟩
 rintro _ _ ⟨rfl, rfl⟩
 refine splitB.mk (fun hb21 => ?_) (fun hb21 => ?_)
 replace h := T_var hb21 h
 refine .direct ?_
 refine ⟨rfl, ?_⟩
 refine ⟨rfl, _, rfl, ?_⟩
 refine splitB.mk (fun hb22 => ?_) (fun hb22 => ?_)
 replace h := T_dec hb22 h
 refine ⟨rfl, ?_⟩
 refine splitB_t ?_
 refine ⟨rfl, _, rfl, ?_⟩
 refine splitB_t ?_
 refine splitB_t ?_
 refine splitB_t ?_
 obtain rfl := Option.some.inj h
 exact ⟨[], .bool (decide (a0.fA < a2)), [], by decide, (show 0 ≤ 0 by decide), .bool_eq rfl, trivial, rfl, rfl⟩
 replace h := F_dec hb22 h
 refine splitB_f ?_
 refine splitB_f ?_
 refine splitB_f ?_
 refine splitB_f ?_
 obtain rfl := Option.some.inj h
 exact ⟨[], .bool false, [], by decide, (show 0 ≤ 0 by decide), .bool_eq rfl, trivial, rfl, rfl⟩
 replace h := F_var hb21 h
 refine .direct ?_
 refine ⟨rfl, ?_⟩
 refine ⟨rfl, _, rfl, ?_⟩
 obtain rfl := Option.some.inj h
 exact ⟨[], .bool (a0.fA == 0), [], by decide, (show 0 ≤ 0 by decide), .bool_eq rfl, trivial, rfl, rfl⟩
def m_i_operandB (a0 : TIns) (a1 : Int) : Option (Bool) :=
 (
 (if a0.fOp = 15 then
 some (a0.fOp == 15)
 else
 some (a0.fOp == 52))
 : Option (Bool)) >>= fun b1 =>
 (if b1 = true then
 m_i_InRange a0.fB 0 1 >>= fun v7 =>
 some v7
 else
 (
 (if a0.fOp = 18 then
 some (a0.fOp == 18)
 else
 (if a0.fOp = 19 then
 some (a0.fOp == 19)
 else
 some (a0.fOp == 20)))
 : Option (Bool)) >>= fun b9 =>
 (if b9 = true then
 m_i_InRange a0.fB 0 81 >>= fun v16 =>
 some v16
 else
 (
 (if a0.fOp = 21 then
 some (a0.fOp == 21)
 else
 (if a0.fOp = 22 then
 some (a0.fOp == 22)
 else
 some (a0.fOp == 23)))
 : Option (Bool)) >>= fun b18 =>
 (if b18 = true then
 m_i_InRange a0.fB 0 40 >>= fun v25 =>
 some v25
 else
 (if a0.fOp = 24 then
 (if a0.fB ≥ 0 then
 some (decide (a0.fB < a1))
 else
 some false)
 else
 (if a0.fOp = 49 then
 m_i_InRange a0.fB 0 100 >>= fun v30 =>
 some v30
 else
 some (a0.fB == 0))))))
theorem ok_i_operandB {a0 : TIns} {a1 : Int} {r : Bool} (h : m_i_operandB a0 a1 = some r) : ACall Try.prog 93 [.agg [.int .i64 a0.fOp, .int .i64 a0.fA, .int .i64 a0.fB, .str a0.fS, .str a0.fT], .int .i64 a1] [] (fun res h => res = .bool r ∧ h = []) := by
 refine ACall.of_vc tabT_ok mixed Try.func93 rfl (by kernel_rfl) _ _ _ rfl (by kernel_rfl) ?_
 unfold m_i_operandB at h
 refine .direct ?_
 refine .direct ?_
 refine .direct ?_
 refine ⟨rfl, ?_⟩
 refine ⟨rfl, _, rfl, ?_⟩
 obtain ⟨o2, ho3, hk4⟩ := bind_some h
 replace h := ho3
 refine .cut (fun σ η => ∃ b1, b1 = o2 ∧ σ = [(1, .int .i64 a1), (2, .optr 0 0 0 0), (6, .int .i64 a0.fOp), (7, .bool b1)] ∧ η = [.row 0 5 1 53 (fun _ => [.int .i64 a0.fOp, .int .i64 a0.fA, .int .i64 a0.fB, .str a0.fS, .str a0.fT])]) ?_ ?_
 refine .direct ?_
 refine splitB.mk (fun hb5 => ?_) (fun hb5 => ?_)
 replace h := T_beq hb5 h
 exact ⟨[(1, .int .i64 a1), (2, .optr 0 0 0 0), (6, .int .i64 a0.fOp), (7, .bool (a0.fOp == 15))], [.row 0 5 1 53 (fun _ => [.int .i64 a0.fOp, .int .i64 a0.fA, .int .i64 a0.fB, .str a0.fS, .str a0.fT])], ⟨[0], by decide, (show 0 ≤ 1 by decide), ⟨.int_eq rfl, .optr_eq rfl ⟨_, _, _, _, rfl⟩ ⟨_, _, _, _, rfl, Nat.zero_lt_one⟩ rfl rfl, .int_eq rfl, .bool_eq rfl, trivial⟩, ⟨⟨fun h0 => absurd (show 0 < 0 from h0) (by decide), rfl, .inl rfl, rfl, fun _ _ => ⟨.int_eq rfl, .int_eq rfl, .int_eq rfl, .str_eq rfl, .str_eq rfl, trivial⟩⟩, trivial⟩⟩, (a0.fOp == 15), Option.some.inj h, rfl, rfl⟩
 replace h := F_beq hb5 h
 exact ⟨[(1, .int .i64 a1), (2, .optr 0 0 0 0), (6, .int .i64 a0.fOp), (7, .bool (a0.fOp == 52))], [.row 0 5 1 53 (fun _ => [.int .i64 a0.fOp, .int .i64 a0.fA, .int .i64 a0.fB, .str a0.fS, .str a0.fT])], ⟨[0], by decide, (show 0 ≤ 1 by decide), ⟨.int_eq rfl, .optr_eq rfl ⟨_, _, _, _, rfl⟩ ⟨_, _, _, _, rfl, Nat.zero_lt_one⟩ rfl rfl, .int_eq rfl, .bool_eq rfl, trivial⟩, ⟨⟨fun h0 => absurd (show 0 < 0 from h0) (by decide), rfl, .inl rfl, rfl, fun _ _ => ⟨.int_eq rfl, .int_eq rfl, .int_eq rfl, .str_eq rfl, .str_eq rfl, trivial⟩⟩, trivial⟩⟩, (a0.fOp == 52), Option.some.inj h, rfl, rfl⟩
 rintro _ _ ⟨b1, rfl, rfl, rfl⟩
 replace h := hk4
 refine splitB.mk (fun hb6 => ?_) (fun hb6 => ?_)
 replace h := T_var hb6 h
 refine .direct ?_
 refine ⟨rfl, ?_⟩
 refine ⟨rfl, _, rfl, ?_⟩
 obtain ⟨v7, hv8, h⟩ := bind_some h
 refine ⟨_, ACall.pure0 (ok_i_InRange hv8) _ rfl (fun _ => rfl), ?_⟩
 rintro _ _ ⟨rfl, rfl⟩
 obtain rfl := Option.some.inj h
 exact ⟨[], .bool v7, [], by decide, (show 0 ≤ 0 by decide), .bool_eq rfl, trivial, rfl, rfl⟩
 replace h := F_var hb6 h
 obtain ⟨o10, ho11, hk12⟩ := bind_some h
 replace h := ho11
 refine .cut (fun σ η => ∃ b9, b9 = o10 ∧ σ = [(1, .int .i64 a1), (2, .optr 0 0 0 0), (6, .int .i64 a0.fOp), (13, .bool b9)] ∧ η = [.row 0 5 1 53 (fun _ => [.int .i64 a0.fOp, .int .i64 a0.fA, .int .i64 a0.fB, .str a0.fS, .str a0.fT])]) ?_ ?_
 refine .direct ?_
 refine splitB.mk (fun hb13 => ?_) (fun hb13 => ?_)
 replace h := T_beq hb13 h
 exact ⟨[(1, .int .i64 a1), (2, .optr 0 0 0 0), (6, .int .i64 a0.fOp), (13, .bool (a0.fOp == 18))], [.row 0 5 1 53 (fun _ => [.int .i64 a0.fOp, .int .i64 a0.fA, .int .i64 a0.fB, .str a0.fS, .str a0.fT])], ⟨[0], by decide, (show 0 ≤ 1 by decide), ⟨.int_eq rfl, .optr_eq rfl ⟨_, _, _, _, rfl⟩ ⟨_, _, _, _, rfl, Nat.zero_lt_one⟩ rfl rfl, .int_eq rfl, .bool_eq rfl, trivial⟩, ⟨⟨fun h0 => absurd (show 0 < 0 from h0) (by decide), rfl, .inl rfl, rfl, fun _ _ => ⟨.int_eq rfl, .int_eq rfl, .int_eq rfl, .str_eq rfl, .str_eq rfl, trivial⟩⟩, trivial⟩⟩, (a0.fOp == 18), Option.some.inj h, rfl, rfl⟩
 replace h := F_beq hb13 h
 refine .direct ?_
 refine splitB.mk (fun hb14 => ?_) (fun hb14 => ?_)
 replace h := T_beq hb14 h
 exact ⟨[(1, .int .i64 a1), (2, .optr 0 0 0 0), (6, .int .i64 a0.fOp), (13, .bool (a0.fOp == 19))], [.row 0 5 1 53 (fun _ => [.int .i64 a0.fOp, .int .i64 a0.fA, .int .i64 a0.fB, .str a0.fS, .str a0.fT])], ⟨[0], by decide, (show 0 ≤ 1 by decide), ⟨.int_eq rfl, .optr_eq rfl ⟨_, _, _, _, rfl⟩ ⟨_, _, _, _, rfl, Nat.zero_lt_one⟩ rfl rfl, .int_eq rfl, .bool_eq rfl, trivial⟩, ⟨⟨fun h0 => absurd (show 0 < 0 from h0) (by decide), rfl, .inl rfl, rfl, fun _ _ => ⟨.int_eq rfl, .int_eq rfl, .int_eq rfl, .str_eq rfl, .str_eq rfl, trivial⟩⟩, trivial⟩⟩, (a0.fOp == 19), Option.some.inj h, rfl, rfl⟩
 replace h := F_beq hb14 h
 exact ⟨[(1, .int .i64 a1), (2, .optr 0 0 0 0), (6, .int .i64 a0.fOp), (13, .bool (a0.fOp == 20))], [.row 0 5 1 53 (fun _ => [.int .i64 a0.fOp, .int .i64 a0.fA, .int .i64 a0.fB, .str a0.fS, .str a0.fT])], ⟨[0], by decide, (show 0 ≤ 1 by decide), ⟨.int_eq rfl, .optr_eq rfl ⟨_, _, _, _, rfl⟩ ⟨_, _, _, _, rfl, Nat.zero_lt_one⟩ rfl rfl, .int_eq rfl, .bool_eq rfl, trivial⟩, ⟨⟨fun h0 => absurd (show 0 < 0 from h0) (by decide), rfl, .inl rfl, rfl, fun _ _ => ⟨.int_eq rfl, .int_eq rfl, .int_eq rfl, .str_eq rfl, .str_eq rfl, trivial⟩⟩, trivial⟩⟩, (a0.fOp == 20), Option.some.inj h, rfl, rfl⟩
 rintro _ _ ⟨b9, rfl, rfl, rfl⟩
 replace h := hk12
 refine splitB.mk (fun hb15 => ?_) (fun hb15 => ?_)
 replace h := T_var hb15 h
 refine .direct ?_
 refine ⟨rfl, ?_⟩
 refine ⟨rfl, _, rfl, ?_⟩
 obtain ⟨v16, hv17, h⟩ := bind_some h
 refine ⟨_, ACall.pure0 (ok_i_InRange hv17) _ rfl (fun _ => rfl), ?_⟩
 rintro _ _ ⟨rfl, rfl⟩
 obtain rfl := Option.some.inj h
 exact ⟨[], .bool v16, [], by decide, (show 0 ≤ 0 by decide), .bool_eq rfl, trivial, rfl, rfl⟩
 replace h := F_var hb15 h
 obtain ⟨o19, ho20, hk21⟩ := bind_some h
 replace h := ho20
 refine .cut (fun σ η => ∃ b18, b18 = o19 ∧ σ = [(1, .int .i64 a1), (2, .optr 0 0 0 0), (6, .int .i64 a0.fOp), (20, .bool b18)] ∧ η = [.row 0 5 1 53 (fun _ => [.int .i64 a0.fOp, .int .i64 a0.fA, .int .i64 a0.fB, .str a0.fS, .str a0.fT])]) ?_ ?_
 refine .direct ?_
 refine splitB.mk (fun hb22 => ?_) (fun hb22 => ?_)
 replace h := T_beq hb22 h
 exact ⟨[(1, .int .i64 a1), (2, .optr 0 0 0 0), (6, .int .i64 a0.fOp), (20, .bool (a0.fOp == 21))], [.row 0 5 1 53 (fun _ => [.int .i64 a0.fOp, .int .i64 a0.fA, .int .i64 a0.fB, .str a0.fS, .str a0.fT])], ⟨[0], by decide, (show 0 ≤ 1 by decide), ⟨.int_eq rfl, .optr_eq rfl ⟨_, _, _, _, rfl⟩ ⟨_, _, _, _, rfl, Nat.zero_lt_one⟩ rfl rfl, .int_eq rfl, .bool_eq rfl, trivial⟩, ⟨⟨fun h0 => absurd (show 0 < 0 from h0) (by decide), rfl, .inl rfl, rfl, fun _ _ => ⟨.int_eq rfl, .int_eq rfl, .int_eq rfl, .str_eq rfl, .str_eq rfl, trivial⟩⟩, trivial⟩⟩, (a0.fOp == 21), Option.some.inj h, rfl, rfl⟩
 replace h := F_beq hb22 h
 refine .direct ?_
 refine splitB.mk (fun hb23 => ?_) (fun hb23 => ?_)
 replace h := T_beq hb23 h
 exact ⟨[(1, .int .i64 a1), (2, .optr 0 0 0 0), (6, .int .i64 a0.fOp), (20, .bool (a0.fOp == 22))], [.row 0 5 1 53 (fun _ => [.int .i64 a0.fOp, .int .i64 a0.fA, .int .i64 a0.fB, .str a0.fS, .str a0.fT])], ⟨[0], by decide, (show 0 ≤ 1 by decide), ⟨.int_eq rfl, .optr_eq rfl ⟨_, _, _, _, rfl⟩ ⟨_, _, _, _, rfl, Nat.zero_lt_one⟩ rfl rfl, .int_eq rfl, .bool_eq rfl, trivial⟩, ⟨⟨fun h0 => absurd (show 0 < 0 from h0) (by decide), rfl, .inl rfl, rfl, fun _ _ => ⟨.int_eq rfl, .int_eq rfl, .int_eq rfl, .str_eq rfl, .str_eq rfl, trivial⟩⟩, trivial⟩⟩, (a0.fOp == 22), Option.some.inj h, rfl, rfl⟩
 replace h := F_beq hb23 h
 exact ⟨[(1, .int .i64 a1), (2, .optr 0 0 0 0), (6, .int .i64 a0.fOp), (20, .bool (a0.fOp == 23))], [.row 0 5 1 53 (fun _ => [.int .i64 a0.fOp, .int .i64 a0.fA, .int .i64 a0.fB, .str a0.fS, .str a0.fT])], ⟨[0], by decide, (show 0 ≤ 1 by decide), ⟨.int_eq rfl, .optr_eq rfl ⟨_, _, _, _, rfl⟩ ⟨_, _, _, _, rfl, Nat.zero_lt_one⟩ rfl rfl, .int_eq rfl, .bool_eq rfl, trivial⟩, ⟨⟨fun h0 => absurd (show 0 < 0 from h0) (by decide), rfl, .inl rfl, rfl, fun _ _ => ⟨.int_eq rfl, .int_eq rfl, .int_eq rfl, .str_eq rfl, .str_eq rfl, trivial⟩⟩, trivial⟩⟩, (a0.fOp == 23), Option.some.inj h, rfl, rfl⟩
 rintro _ _ ⟨b18, rfl, rfl, rfl⟩
 replace h := hk21
 refine splitB.mk (fun hb24 => ?_) (fun hb24 => ?_)
 replace h := T_var hb24 h
 refine .direct ?_
 refine ⟨rfl, ?_⟩
 refine ⟨rfl, _, rfl, ?_⟩
 obtain ⟨v25, hv26, h⟩ := bind_some h
 refine ⟨_, ACall.pure0 (ok_i_InRange hv26) _ rfl (fun _ => rfl), ?_⟩
 rintro _ _ ⟨rfl, rfl⟩
 obtain rfl := Option.some.inj h
 exact ⟨[], .bool v25, [], by decide, (show 0 ≤ 0 by decide), .bool_eq rfl, trivial, rfl, rfl⟩
 replace h := F_var hb24 h
 refine .direct ?_
 refine splitB.mk (fun hb27 => ?_) (fun hb27 => ?_)
 replace h := T_beq hb27 h
 refine .direct ?_
 refine ⟨rfl, ?_⟩
 refine ⟨rfl, _, rfl, ?_⟩
 refine splitB.mk (fun hb28 => ?_) (fun hb28 => ?_)
 replace h := T_dec hb28 h
 refine ⟨rfl, ?_⟩
 refine splitB_t ?_
 refine ⟨rfl, _, rfl, ?_⟩
 refine splitB_t ?_
 refine splitB_t ?_
 refine splitB_t ?_
 obtain rfl := Option.some.inj h
 exact ⟨[], .bool (decide (a0.fB < a1)), [], by decide, (show 0 ≤ 0 by decide), .bool_eq rfl, trivial, rfl, rfl⟩
 replace h := F_dec hb28 h
 refine splitB_f ?_
 refine splitB_f ?_
 refine splitB_f ?_
 refine splitB_f ?_
 obtain rfl := Option.some.inj h
 exact ⟨[], .bool false, [], by decide, (show 0 ≤ 0 by decide), .bool_eq rfl, trivial, rfl, rfl⟩
 replace h := F_beq hb27 h
 refine .direct ?_
 refine splitB.mk (fun hb29 => ?_) (fun hb29 => ?_)
 replace h := T_beq hb29 h
 refine .direct ?_
 refine ⟨rfl, ?_⟩
 refine ⟨rfl, _, rfl, ?_⟩
 obtain ⟨v30, hv31, h⟩ := bind_some h
 refine ⟨_, ACall.pure0 (ok_i_InRange hv31) _ rfl (fun _ => rfl), ?_⟩
 rintro _ _ ⟨rfl, rfl⟩
 obtain rfl := Option.some.inj h
 exact ⟨[], .bool v30, [], by decide, (show 0 ≤ 0 by decide), .bool_eq rfl, trivial, rfl, rfl⟩
 replace h := F_beq hb29 h
 refine .direct ?_
 refine ⟨rfl, ?_⟩
 refine ⟨rfl, _, rfl, ?_⟩
 obtain rfl := Option.some.inj h
 exact ⟨[], .bool (a0.fB == 0), [], by decide, (show 0 ≤ 0 by decide), .bool_eq rfl, trivial, rfl, rfl⟩
def m_i_IsIns (a0 : TIns) (a1 : Int) (a2 : Int) : Option (Bool) :=
 m_i_knownOp a0.fOp >>= fun v1 =>
 (if v1 = true then
 m_i_operandA a0 a1 a2 >>= fun v4 =>
 (if v4 = true then
 m_i_operandB a0 a1 >>= fun v7 =>
 (if v7 = true then
 ((
 (
 (if a0.fOp = 31 then
 some (a0.fOp == 31)
 else
 (if a0.fOp = 55 then
 some (a0.fOp == 55)
 else
 (if a0.fOp = 56 then
 some (a0.fOp == 56)
 else
 (if a0.fOp = 35 then
 some (a0.fOp == 35)
 else
 some (a0.fOp == 36)))))
 : Option (Bool)) >>= fun b13 =>
 (if b13 = true then
 some (.inl ())
 else
 (if a0.fOp = 3 then
 (if (a0.fS.length : Int) > 400 then
 some (.inr false)
 else
 some (.inl ()))
 else
 (
 (if a0.fOp = 7 then
 some (a0.fOp == 7)
 else
 (if a0.fOp = 8 then
 some (a0.fOp == 8)
 else
 (if a0.fOp = 17 then
 some (a0.fOp == 17)
 else
 (if a0.fOp = 19 then
 some (a0.fOp == 19)
 else
 (if a0.fOp = 20 then
 some (a0.fOp == 20)
 else
 (if a0.fOp = 22 then
 some (a0.fOp == 22)
 else
 (if a0.fOp = 23 then
 some (a0.fOp == 23)
 else
 (if a0.fOp = 25 then
 some (a0.fOp == 25)
 else
 (if a0.fOp = 26 then
 some (a0.fOp == 26)
 else
 (if a0.fOp = 32 then
 some (a0.fOp == 32)
 else
 (if a0.fOp = 34 then
 some (a0.fOp == 34)
 else
 (if a0.fOp = 39 then
 some (a0.fOp == 39)
 else
 some (a0.fOp == 44)))))))))))))
 : Option (Bool)) >>= fun b24 =>
 (if b24 = true then
 m_i_goodName a0.fS >>= fun v41 =>
 (if v41 = true then
 some (.inl ())
 else
 some (.inr false))
 else
 (if a0.fS = ([] : Str) then
 some (.inl ())
 else
 some (.inr false)))))
 : Option ((Unit) ⊕ Bool)) >>= fun o10 => match o10 with
 | .inr r => some r
 | .inl _ =>
 (if a0.fOp = 25 then
 m_i_goodName a0.fT >>= fun v48 =>
 some v48
 else
 some (a0.fT == ([] : Str)))
 )
 else
 some false)
 else
 some false)
 else
 some false)
theorem ok_i_IsIns {a0 : TIns} {a1 : Int} {a2 : Int} {r : Bool} (h : m_i_IsIns a0 a1 a2 = some r) : ACall Try.prog 72 [.agg [.int .i64 a0.fOp, .int .i64 a0.fA, .int .i64 a0.fB, .str a0.fS, .str a0.fT], .int .i64 a1, .int .i64 a2] [] (fun res h => res = .bool r ∧ h = []) := by
 refine ACall.of_vc tabT_ok mixed Try.func72 rfl (by kernel_rfl) _ _ _ rfl (by kernel_rfl) ?_
 unfold m_i_IsIns at h
 refine .direct ?_
 refine .direct ?_
 refine .direct ?_
 refine ⟨rfl, ?_⟩
 refine ⟨rfl, _, rfl, ?_⟩
 obtain ⟨v1, hv2, h⟩ := bind_some h
 refine ⟨_, ACall.pure0 (ok_i_knownOp hv2) _ rfl (fun _ => rfl), ?_⟩
 rintro _ _ ⟨rfl, rfl⟩
 refine splitB.mk (fun hb3 => ?_) (fun hb3 => ?_)
 have hb52 := not_F hb3
 replace h := F_var hb52 h
 refine splitB_t ?_
 refine splitB_t ?_
 refine splitB_t ?_
 refine splitB_t ?_
 refine splitB_t ?_
 refine splitB_t ?_
 refine splitB_t ?_
 refine splitB_t ?_
 refine splitB_t ?_
 refine splitB_t ?_
 refine splitB_t ?_
 refine .direct ?_
 obtain rfl := Option.some.inj h
 exact ⟨[], .bool false, [], by decide, (show 0 ≤ 0 by decide), .bool_eq rfl, trivial, rfl, rfl⟩
 have hb52 := not_T hb3
 replace h := T_var hb52 h
 refine ⟨rfl, _, rfl, ?_⟩
 refine splitB_f ?_
 refine splitB_f ?_
 refine splitB_f ?_
 obtain ⟨v4, hv5, h⟩ := bind_some h
 refine ⟨_, ACall.pure0 (ok_i_operandA hv5) _ rfl (fun _ => rfl), ?_⟩
 rintro _ _ ⟨rfl, rfl⟩
 refine splitB_f ?_
 refine splitB_f ?_
 refine splitB.mk (fun hb6 => ?_) (fun hb6 => ?_)
 have hb51 := not_F hb6
 replace h := F_var hb51 h
 refine splitB_t ?_
 refine splitB_t ?_
 refine splitB_t ?_
 refine splitB_t ?_
 refine splitB_t ?_
 refine .direct ?_
 obtain rfl := Option.some.inj h
 exact ⟨[], .bool false, [], by decide, (show 0 ≤ 0 by decide), .bool_eq rfl, trivial, rfl, rfl⟩
 have hb51 := not_T hb6
 replace h := T_var hb51 h
 refine ⟨rfl, _, rfl, ?_⟩
 refine splitB_f ?_
 refine splitB_f ?_
 obtain ⟨v7, hv8, h⟩ := bind_some h
 refine ⟨_, ACall.pure0 (ok_i_operandB hv8) _ rfl (fun _ => rfl), ?_⟩
 rintro _ _ ⟨rfl, rfl⟩
 refine splitB_f ?_
 refine splitB_f ?_
 refine splitB.mk (fun hb9 => ?_) (fun hb9 => ?_)
 have hb50 := not_F hb9
 replace h := F_var hb50 h
 refine .direct ?_
 obtain rfl := Option.some.inj h
 exact ⟨[], .bool false, [], by decide, (show 0 ≤ 0 by decide), .bool_eq rfl, trivial, rfl, rfl⟩
 have hb50 := not_T hb9
 replace h := T_var hb50 h
 obtain ⟨o10, ho11, hk12⟩ := bind_some h
 replace h := ho11
 refine .cut (fun σ η => .inl () = o10 ∧ σ = [(3, .optr 0 0 0 0)] ∧ η = [.row 0 5 1 53 (fun _ => [.int .i64 a0.fOp, .int .i64 a0.fA, .int .i64 a0.fB, .str a0.fS, .str a0.fT])]) ?_ ?_
 refine .direct ?_
 refine ⟨rfl, ?_⟩
 refine ⟨rfl, _, rfl, ?_⟩
 obtain ⟨o14, ho15, hk16⟩ := bind_some h
 replace h := ho15
 refine .cut (fun σ η => ∃ b13, b13 = o14 ∧ σ = [(3, .optr 0 0 0 0), (25, .int .i64 a0.fOp), (29, .bool b13)] ∧ η = [.row 0 5 1 53 (fun _ => [.int .i64 a0.fOp, .int .i64 a0.fA, .int .i64 a0.fB, .str a0.fS, .str a0.fT])]) ?_ ?_
 refine .direct ?_
 refine splitB.mk (fun hb17 => ?_) (fun hb17 => ?_)
 replace h := T_beq hb17 h
 exact ⟨[(3, .optr 0 0 0 0), (25, .int .i64 a0.fOp), (29, .bool (a0.fOp == 31))], [.row 0 5 1 53 (fun _ => [.int .i64 a0.fOp, .int .i64 a0.fA, .int .i64 a0.fB, .str a0.fS, .str a0.fT])], ⟨[0], by decide, (show 0 ≤ 1 by decide), ⟨.optr_eq rfl ⟨_, _, _, _, rfl⟩ ⟨_, _, _, _, rfl, Nat.zero_lt_one⟩ rfl rfl, .int_eq rfl, .bool_eq rfl, trivial⟩, ⟨⟨fun h0 => absurd (show 0 < 0 from h0) (by decide), rfl, .inl rfl, rfl, fun _ _ => ⟨.int_eq rfl, .int_eq rfl, .int_eq rfl, .str_eq rfl, .str_eq rfl, trivial⟩⟩, trivial⟩⟩, (a0.fOp == 31), Option.some.inj h, rfl, rfl⟩
 replace h := F_beq hb17 h
 refine .direct ?_
 refine splitB.mk (fun hb18 => ?_) (fun hb18 => ?_)
 replace h := T_beq hb18 h
 exact ⟨[(3, .optr 0 0 0 0), (25, .int .i64 a0.fOp), (29, .bool (a0.fOp == 55))], [.row 0 5 1 53 (fun _ => [.int .i64 a0.fOp, .int .i64 a0.fA, .int .i64 a0.fB, .str a0.fS, .str a0.fT])], ⟨[0], by decide, (show 0 ≤ 1 by decide), ⟨.optr_eq rfl ⟨_, _, _, _, rfl⟩ ⟨_, _, _, _, rfl, Nat.zero_lt_one⟩ rfl rfl, .int_eq rfl, .bool_eq rfl, trivial⟩, ⟨⟨fun h0 => absurd (show 0 < 0 from h0) (by decide), rfl, .inl rfl, rfl, fun _ _ => ⟨.int_eq rfl, .int_eq rfl, .int_eq rfl, .str_eq rfl, .str_eq rfl, trivial⟩⟩, trivial⟩⟩, (a0.fOp == 55), Option.some.inj h, rfl, rfl⟩
 replace h := F_beq hb18 h
 refine .direct ?_
 refine splitB.mk (fun hb19 => ?_) (fun hb19 => ?_)
 replace h := T_beq hb19 h
 exact ⟨[(3, .optr 0 0 0 0), (25, .int .i64 a0.fOp), (29, .bool (a0.fOp == 56))], [.row 0 5 1 53 (fun _ => [.int .i64 a0.fOp, .int .i64 a0.fA, .int .i64 a0.fB, .str a0.fS, .str a0.fT])], ⟨[0], by decide, (show 0 ≤ 1 by decide), ⟨.optr_eq rfl ⟨_, _, _, _, rfl⟩ ⟨_, _, _, _, rfl, Nat.zero_lt_one⟩ rfl rfl, .int_eq rfl, .bool_eq rfl, trivial⟩, ⟨⟨fun h0 => absurd (show 0 < 0 from h0) (by decide), rfl, .inl rfl, rfl, fun _ _ => ⟨.int_eq rfl, .int_eq rfl, .int_eq rfl, .str_eq rfl, .str_eq rfl, trivial⟩⟩, trivial⟩⟩, (a0.fOp == 56), Option.some.inj h, rfl, rfl⟩
 replace h := F_beq hb19 h
 refine .direct ?_
 refine splitB.mk (fun hb20 => ?_) (fun hb20 => ?_)
 replace h := T_beq hb20 h
 exact ⟨[(3, .optr 0 0 0 0), (25, .int .i64 a0.fOp), (29, .bool (a0.fOp == 35))], [.row 0 5 1 53 (fun _ => [.int .i64 a0.fOp, .int .i64 a0.fA, .int .i64 a0.fB, .str a0.fS, .str a0.fT])], ⟨[0], by decide, (show 0 ≤ 1 by decide), ⟨.optr_eq rfl ⟨_, _, _, _, rfl⟩ ⟨_, _, _, _, rfl, Nat.zero_lt_one⟩ rfl rfl, .int_eq rfl, .bool_eq rfl, trivial⟩, ⟨⟨fun h0 => absurd (show 0 < 0 from h0) (by decide), rfl, .inl rfl, rfl, fun _ _ => ⟨.int_eq rfl, .int_eq rfl, .int_eq rfl, .str_eq rfl, .str_eq rfl, trivial⟩⟩, trivial⟩⟩, (a0.fOp == 35), Option.some.inj h, rfl, rfl⟩
 replace h := F_beq hb20 h
 exact ⟨[(3, .optr 0 0 0 0), (25, .int .i64 a0.fOp), (29, .bool (a0.fOp == 36))], [.row 0 5 1 53 (fun _ => [.int .i64 a0.fOp, .int .i64 a0.fA, .int .i64 a0.fB, .str a0.fS, .str a0.fT])], ⟨[0], by decide, (show 0 ≤ 1 by decide), ⟨.optr_eq rfl ⟨_, _, _, _, rfl⟩ ⟨_, _, _, _, rfl, Nat.zero_lt_one⟩ rfl rfl, .int_eq rfl, .bool_eq rfl, trivial⟩, ⟨⟨fun h0 => absurd (show 0 < 0 from h0) (by decide), rfl, .inl rfl, rfl, fun _ _ => ⟨.int_eq rfl, .int_eq rfl, .int_eq rfl, .str_eq rfl, .str_eq rfl, trivial⟩⟩, trivial⟩⟩, (a0.fOp == 36), Option.some.inj h, rfl, rfl⟩
 rintro _ _ ⟨b13, rfl, rfl, rfl⟩
 replace h := hk16
 refine splitB.mk (fun hb21 => ?_) (fun hb21 => ?_)
 replace h := T_var hb21 h
 exact ⟨[(3, .optr 0 0 0 0)], [.row 0 5 1 53 (fun _ => [.int .i64 a0.fOp, .int .i64 a0.fA, .int .i64 a0.fB, .str a0.fS, .str a0.fT])], ⟨[0], by decide, (show 0 ≤ 1 by decide), ⟨.optr_eq rfl ⟨_, _, _, _, rfl⟩ ⟨_, _, _, _, rfl, Nat.zero_lt_one⟩ rfl rfl, trivial⟩, ⟨⟨fun h0 => absurd (show 0 < 0 from h0) (by decide), rfl, .inl rfl, rfl, fun _ _ => ⟨.int_eq rfl, .int_eq rfl, .int_eq rfl, .str_eq rfl, .str_eq rfl, trivial⟩⟩, trivial⟩⟩, Option.some.inj h, rfl, rfl⟩
 replace h := F_var hb21 h
 refine .direct ?_
 refine splitB.mk (fun hb22 => ?_) (fun hb22 => ?_)
 replace h := T_beq hb22 h
 refine .direct ?_
 refine ⟨rfl, ?_⟩
 refine ⟨rfl, _, rfl, ?_⟩
 refine splitB.mk (fun hb23 => ?_) (fun hb23 => ?_)
 replace h := T_dec hb23 h
 refine .direct ?_
 obtain rfl := Option.some.inj h
 replace h := hk12
 obtain rfl := Option.some.inj h
 exact ⟨[], .bool false, [], by decide, (show 0 ≤ 0 by decide), .bool_eq rfl, trivial, rfl, rfl⟩
 replace h := F_dec hb23 h
 exact ⟨[(3, .optr 0 0 0 0)], [.row 0 5 1 53 (fun _ => [.int .i64 a0.fOp, .int .i64 a0.fA, .int .i64 a0.fB, .str a0.fS, .str a0.fT])], ⟨[0], by decide, (show 0 ≤ 1 by decide), ⟨.optr_eq rfl ⟨_, _, _, _, rfl⟩ ⟨_, _, _, _, rfl, Nat.zero_lt_one⟩ rfl rfl, trivial⟩, ⟨⟨fun h0 => absurd (show 0 < 0 from h0) (by decide), rfl, .inl rfl, rfl, fun _ _ => ⟨.int_eq rfl, .int_eq rfl, .int_eq rfl, .str_eq rfl, .str_eq rfl, trivial⟩⟩, trivial⟩⟩, Option.some.inj h, rfl, rfl⟩
 replace h := F_beq hb22 h
 obtain ⟨o25, ho26, hk27⟩ := bind_some h
 replace h := ho26
 refine .cut (fun σ η => ∃ b24, b24 = o25 ∧ σ = [(3, .optr 0 0 0 0), (41, .bool b24)] ∧ η = [.row 0 5 1 53 (fun _ => [.int .i64 a0.fOp, .int .i64 a0.fA, .int .i64 a0.fB, .str a0.fS, .str a0.fT])]) ?_ ?_
 refine .direct ?_
 refine splitB.mk (fun hb28 => ?_) (fun hb28 => ?_)
 replace h := T_beq hb28 h
 exact ⟨[(3, .optr 0 0 0 0), (41, .bool (a0.fOp == 7))], [.row 0 5 1 53 (fun _ => [.int .i64 a0.fOp, .int .i64 a0.fA, .int .i64 a0.fB, .str a0.fS, .str a0.fT])], ⟨[0], by decide, (show 0 ≤ 1 by decide), ⟨.optr_eq rfl ⟨_, _, _, _, rfl⟩ ⟨_, _, _, _, rfl, Nat.zero_lt_one⟩ rfl rfl, .bool_eq rfl, trivial⟩, ⟨⟨fun h0 => absurd (show 0 < 0 from h0) (by decide), rfl, .inl rfl, rfl, fun _ _ => ⟨.int_eq rfl, .int_eq rfl, .int_eq rfl, .str_eq rfl, .str_eq rfl, trivial⟩⟩, trivial⟩⟩, (a0.fOp == 7), Option.some.inj h, rfl, rfl⟩
 replace h := F_beq hb28 h
 refine .direct ?_
 refine splitB.mk (fun hb29 => ?_) (fun hb29 => ?_)
 replace h := T_beq hb29 h
 exact ⟨[(3, .optr 0 0 0 0), (41, .bool (a0.fOp == 8))], [.row 0 5 1 53 (fun _ => [.int .i64 a0.fOp, .int .i64 a0.fA, .int .i64 a0.fB, .str a0.fS, .str a0.fT])], ⟨[0], by decide, (show 0 ≤ 1 by decide), ⟨.optr_eq rfl ⟨_, _, _, _, rfl⟩ ⟨_, _, _, _, rfl, Nat.zero_lt_one⟩ rfl rfl, .bool_eq rfl, trivial⟩, ⟨⟨fun h0 => absurd (show 0 < 0 from h0) (by decide), rfl, .inl rfl, rfl, fun _ _ => ⟨.int_eq rfl, .int_eq rfl, .int_eq rfl, .str_eq rfl, .str_eq rfl, trivial⟩⟩, trivial⟩⟩, (a0.fOp == 8), Option.some.inj h, rfl, rfl⟩
 replace h := F_beq hb29 h
 refine .direct ?_
 refine splitB.mk (fun hb30 => ?_) (fun hb30 => ?_)
 replace h := T_beq hb30 h
 exact ⟨[(3, .optr 0 0 0 0), (41, .bool (a0.fOp == 17))], [.row 0 5 1 53 (fun _ => [.int .i64 a0.fOp, .int .i64 a0.fA, .int .i64 a0.fB, .str a0.fS, .str a0.fT])], ⟨[0], by decide, (show 0 ≤ 1 by decide), ⟨.optr_eq rfl ⟨_, _, _, _, rfl⟩ ⟨_, _, _, _, rfl, Nat.zero_lt_one⟩ rfl rfl, .bool_eq rfl, trivial⟩, ⟨⟨fun h0 => absurd (show 0 < 0 from h0) (by decide), rfl, .inl rfl, rfl, fun _ _ => ⟨.int_eq rfl, .int_eq rfl, .int_eq rfl, .str_eq rfl, .str_eq rfl, trivial⟩⟩, trivial⟩⟩, (a0.fOp == 17), Option.some.inj h, rfl, rfl⟩
 replace h := F_beq hb30 h
 refine .direct ?_
 refine splitB.mk (fun hb31 => ?_) (fun hb31 => ?_)
 replace h := T_beq hb31 h
 exact ⟨[(3, .optr 0 0 0 0), (41, .bool (a0.fOp == 19))], [.row 0 5 1 53 (fun _ => [.int .i64 a0.fOp, .int .i64 a0.fA, .int .i64 a0.fB, .str a0.fS, .str a0.fT])], ⟨[0], by decide, (show 0 ≤ 1 by decide), ⟨.optr_eq rfl ⟨_, _, _, _, rfl⟩ ⟨_, _, _, _, rfl, Nat.zero_lt_one⟩ rfl rfl, .bool_eq rfl, trivial⟩, ⟨⟨fun h0 => absurd (show 0 < 0 from h0) (by decide), rfl, .inl rfl, rfl, fun _ _ => ⟨.int_eq rfl, .int_eq rfl, .int_eq rfl, .str_eq rfl, .str_eq rfl, trivial⟩⟩, trivial⟩⟩, (a0.fOp == 19), Option.some.inj h, rfl, rfl⟩
 replace h := F_beq hb31 h
 refine .direct ?_
 refine splitB.mk (fun hb32 => ?_) (fun hb32 => ?_)
 replace h := T_beq hb32 h
 exact ⟨[(3, .optr 0 0 0 0), (41, .bool (a0.fOp == 20))], [.row 0 5 1 53 (fun _ => [.int .i64 a0.fOp, .int .i64 a0.fA, .int .i64 a0.fB, .str a0.fS, .str a0.fT])], ⟨[0], by decide, (show 0 ≤ 1 by decide), ⟨.optr_eq rfl ⟨_, _, _, _, rfl⟩ ⟨_, _, _, _, rfl, Nat.zero_lt_one⟩ rfl rfl, .bool_eq rfl, trivial⟩, ⟨⟨fun h0 => absurd (show 0 < 0 from h0) (by decide), rfl, .inl rfl, rfl, fun _ _ => ⟨.int_eq rfl, .int_eq rfl, .int_eq rfl, .str_eq rfl, .str_eq rfl, trivial⟩⟩, trivial⟩⟩, (a0.fOp == 20), Option.some.inj h, rfl, rfl⟩
 replace h := F_beq hb32 h
 refine .direct ?_
 refine splitB.mk (fun hb33 => ?_) (fun hb33 => ?_)
 replace h := T_beq hb33 h
 exact ⟨[(3, .optr 0 0 0 0), (41, .bool (a0.fOp == 22))], [.row 0 5 1 53 (fun _ => [.int .i64 a0.fOp, .int .i64 a0.fA, .int .i64 a0.fB, .str a0.fS, .str a0.fT])], ⟨[0], by decide, (show 0 ≤ 1 by decide), ⟨.optr_eq rfl ⟨_, _, _, _, rfl⟩ ⟨_, _, _, _, rfl, Nat.zero_lt_one⟩ rfl rfl, .bool_eq rfl, trivial⟩, ⟨⟨fun h0 => absurd (show 0 < 0 from h0) (by decide), rfl, .inl rfl, rfl, fun _ _ => ⟨.int_eq rfl, .int_eq rfl, .int_eq rfl, .str_eq rfl, .str_eq rfl, trivial⟩⟩, trivial⟩⟩, (a0.fOp == 22), Option.some.inj h, rfl, rfl⟩
 replace h := F_beq hb33 h
 refine .direct ?_
 refine splitB.mk (fun hb34 => ?_) (fun hb34 => ?_)
 replace h := T_beq hb34 h
 exact ⟨[(3, .optr 0 0 0 0), (41, .bool (a0.fOp == 23))], [.row 0 5 1 53 (fun _ => [.int .i64 a0.fOp, .int .i64 a0.fA, .int .i64 a0.fB, .str a0.fS, .str a0.fT])], ⟨[0], by decide, (show 0 ≤ 1 by decide), ⟨.optr_eq rfl ⟨_, _, _, _, rfl⟩ ⟨_, _, _, _, rfl, Nat.zero_lt_one⟩ rfl rfl, .bool_eq rfl, trivial⟩, ⟨⟨fun h0 => absurd (show 0 < 0 from h0) (by decide), rfl, .inl rfl, rfl, fun _ _ => ⟨.int_eq rfl, .int_eq rfl, .int_eq rfl, .str_eq rfl, .str_eq rfl, trivial⟩⟩, trivial⟩⟩, (a0.fOp == 23), Option.some.inj h, rfl, rfl⟩
 replace h := F_beq hb34 h
 refine .direct ?_
 refine splitB.mk (fun hb35 => ?_) (fun hb35 => ?_)
 replace h := T_beq hb35 h
 exact ⟨[(3, .optr 0 0 0 0), (41, .bool (a0.fOp == 25))], [.row 0 5 1 53 (fun _ => [.int .i64 a0.fOp, .int .i64 a0.fA, .int .i64 a0.fB, .str a0.fS, .str a0.fT])], ⟨[0], by decide, (show 0 ≤ 1 by decide), ⟨.optr_eq rfl ⟨_, _, _, _, rfl⟩ ⟨_, _, _, _, rfl, Nat.zero_lt_one⟩ rfl rfl, .bool_eq rfl, trivial⟩, ⟨⟨fun h0 => absurd (show 0 < 0 from h0) (by decide), rfl, .inl rfl, rfl, fun _ _ => ⟨.int_eq rfl, .int_eq rfl, .int_eq rfl, .str_eq rfl, .str_eq rfl, trivial⟩⟩, trivial⟩⟩, (a0.fOp == 25), Option.some.inj h, rfl, rfl⟩
 replace h := F_beq hb35 h
 refine .direct ?_
 refine splitB.mk (fun hb36 => ?_) (fun hb36 => ?_)
 replace h := T_beq hb36 h
 exact ⟨[(3, .optr 0 0 0 0), (41, .bool (a0.fOp == 26))], [.row 0 5 1 53 (fun _ => [.int .i64 a0.fOp, .int .i64 a0.fA, .int .i64 a0.fB, .str a0.fS, .str a0.fT])], ⟨[0], by decide, (show 0 ≤ 1 by decide), ⟨.optr_eq rfl ⟨_, _, _, _, rfl⟩ ⟨_, _, _, _, rfl, Nat.zero_lt_one⟩ rfl rfl, .bool_eq rfl, trivial⟩, ⟨⟨fun h0 => absurd (show 0 < 0 from h0) (by decide), rfl, .inl rfl, rfl, fun _ _ => ⟨.int_eq rfl, .int_eq rfl, .int_eq rfl, .str_eq rfl, .str_eq rfl, trivial⟩⟩, trivial⟩⟩, (a0.fOp == 26), Option.some.inj h, rfl, rfl⟩
 replace h := F_beq hb36 h
 refine .direct ?_
 refine splitB.mk (fun hb37 => ?_) (fun hb37 => ?_)
 replace h := T_beq hb37 h
 exact ⟨[(3, .optr 0 0 0 0), (41, .bool (a0.fOp == 32))], [.row 0 5 1 53 (fun _ => [.int .i64 a0.fOp, .int .i64 a0.fA, .int .i64 a0.fB, .str a0.fS, .str a0.fT])], ⟨[0], by decide, (show 0 ≤ 1 by decide), ⟨.optr_eq rfl ⟨_, _, _, _, rfl⟩ ⟨_, _, _, _, rfl, Nat.zero_lt_one⟩ rfl rfl, .bool_eq rfl, trivial⟩, ⟨⟨fun h0 => absurd (show 0 < 0 from h0) (by decide), rfl, .inl rfl, rfl, fun _ _ => ⟨.int_eq rfl, .int_eq rfl, .int_eq rfl, .str_eq rfl, .str_eq rfl, trivial⟩⟩, trivial⟩⟩, (a0.fOp == 32), Option.some.inj h, rfl, rfl⟩
 replace h := F_beq hb37 h
 refine .direct ?_
 refine splitB.mk (fun hb38 => ?_) (fun hb38 => ?_)
 replace h := T_beq hb38 h
 exact ⟨[(3, .optr 0 0 0 0), (41, .bool (a0.fOp == 34))], [.row 0 5 1 53 (fun _ => [.int .i64 a0.fOp, .int .i64 a0.fA, .int .i64 a0.fB, .str a0.fS, .str a0.fT])], ⟨[0], by decide, (show 0 ≤ 1 by decide), ⟨.optr_eq rfl ⟨_, _, _, _, rfl⟩ ⟨_, _, _, _, rfl, Nat.zero_lt_one⟩ rfl rfl, .bool_eq rfl, trivial⟩, ⟨⟨fun h0 => absurd (show 0 < 0 from h0) (by decide), rfl, .inl rfl, rfl, fun _ _ => ⟨.int_eq rfl, .int_eq rfl, .int_eq rfl, .str_eq rfl, .str_eq rfl, trivial⟩⟩, trivial⟩⟩, (a0.fOp == 34), Option.some.inj h, rfl, rfl⟩
 replace h := F_beq hb38 h
 refine .direct ?_
 refine splitB.mk (fun hb39 => ?_) (fun hb39 => ?_)
 replace h := T_beq hb39 h
 exact ⟨[(3, .optr 0 0 0 0), (41, .bool (a0.fOp == 39))], [.row 0 5 1 53 (fun _ => [.int .i64 a0.fOp, .int .i64 a0.fA, .int .i64 a0.fB, .str a0.fS, .str a0.fT])], ⟨[0], by decide, (show 0 ≤ 1 by decide), ⟨.optr_eq rfl ⟨_, _, _, _, rfl⟩ ⟨_, _, _, _, rfl, Nat.zero_lt_one⟩ rfl rfl, .bool_eq rfl, trivial⟩, ⟨⟨fun h0 => absurd (show 0 < 0 from h0) (by decide), rfl, .inl rfl, rfl, fun _ _ => ⟨.int_eq rfl, .int_eq rfl, .int_eq rfl, .str_eq rfl, .str_eq rfl, trivial⟩⟩, trivial⟩⟩, (a0.fOp == 39), Option.some.inj h, rfl, rfl⟩
 replace h := F_beq hb39 h
 exact ⟨[(3, .optr 0 0 0 0), (41, .bool (a0.fOp == 44))], [.row 0 5 1 53 (fun _ => [.int .i64 a0.fOp, .int .i64 a0.fA, .int .i64 a0.fB, .str a0.fS, .str a0.fT])], ⟨[0], by decide, (show 0 ≤ 1 by decide), ⟨.optr_eq rfl ⟨_, _, _, _, rfl⟩ ⟨_, _, _, _, rfl, Nat.zero_lt_one⟩ rfl rfl, .bool_eq rfl, trivial⟩, ⟨⟨fun h0 => absurd (show 0 < 0 from h0) (by decide), rfl, .inl rfl, rfl, fun _ _ => ⟨.int_eq rfl, .int_eq rfl, .int_eq rfl, .str_eq rfl, .str_eq rfl, trivial⟩⟩, trivial⟩⟩, (a0.fOp == 44), Option.some.inj h, rfl, rfl⟩
 rintro _ _ ⟨b24, rfl, rfl, rfl⟩
 replace h := hk27
 refine splitB.mk (fun hb40 => ?_) (fun hb40 => ?_)
 replace h := T_var hb40 h
 refine .direct ?_
 refine ⟨rfl, ?_⟩
 refine ⟨rfl, _, rfl, ?_⟩
 obtain ⟨v41, hv42, h⟩ := bind_some h
 refine ⟨_, ACall.pure0 (ok_i_goodName hv42) _ rfl (fun _ => rfl), ?_⟩
 rintro _ _ ⟨rfl, rfl⟩
 refine splitB.mk (fun hb43 => ?_) (fun hb43 => ?_)
 have hb44 := not_F hb43
 replace h := F_var hb44 h
 refine .direct ?_
 obtain rfl := Option.some.inj h
 replace h := hk12
 obtain rfl := Option.some.inj h
 exact ⟨[], .bool false, [], by decide, (show 0 ≤ 0 by decide), .bool_eq rfl, trivial, rfl, rfl⟩
 have hb44 := not_T hb43
 replace h := T_var hb44 h
 exact ⟨[(3, .optr 0 0 0 0)], [.row 0 5 1 53 (fun _ => [.int .i64 a0.fOp, .int .i64 a0.fA, .int .i64 a0.fB, .str a0.fS, .str a0.fT])], ⟨[0], by decide, (show 0 ≤ 1 by decide), ⟨.optr_eq rfl ⟨_, _, _, _, rfl⟩ ⟨_, _, _, _, rfl, Nat.zero_lt_one⟩ rfl rfl, trivial⟩, ⟨⟨fun h0 => absurd (show 0 < 0 from h0) (by decide), rfl, .inl rfl, rfl, fun _ _ => ⟨.int_eq rfl, .int_eq rfl, .int_eq rfl, .str_eq rfl, .str_eq rfl, trivial⟩⟩, trivial⟩⟩, Option.some.inj h, rfl, rfl⟩
 replace h := F_var hb40 h
 refine .direct ?_
 refine ⟨rfl, ?_⟩
 refine ⟨rfl, _, rfl, ?_⟩
 refine splitB.mk (fun hb45 => ?_) (fun hb45 => ?_)
 have hb46 := not_F hb45
 replace h := F_beq hb46 h
 refine .direct ?_
 obtain rfl := Option.some.inj h
 replace h := hk12
 obtain rfl := Option.some.inj h
 exact ⟨[], .bool false, [], by decide, (show 0 ≤ 0 by decide), .bool_eq rfl, trivial, rfl, rfl⟩
 have hb46 := not_T hb45
 replace h := T_beq hb46 h
 exact ⟨[(3, .optr 0 0 0 0)], [.row 0 5 1 53 (fun _ => [.int .i64 a0.fOp, .int .i64 a0.fA, .int .i64 a0.fB, .str a0.fS, .str a0.fT])], ⟨[0], by decide, (show 0 ≤ 1 by decide), ⟨.optr_eq rfl ⟨_, _, _, _, rfl⟩ ⟨_, _, _, _, rfl, Nat.zero_lt_one⟩ rfl rfl, trivial⟩, ⟨⟨fun h0 => absurd (show 0 < 0 from h0) (by decide), rfl, .inl rfl, rfl, fun _ _ => ⟨.int_eq rfl, .int_eq rfl, .int_eq rfl, .str_eq rfl, .str_eq rfl, trivial⟩⟩, trivial⟩⟩, Option.some.inj h, rfl, rfl⟩
 rintro _ _ ⟨rfl, rfl, rfl⟩
 replace h := hk12
 refine .direct ?_
 refine .direct ?_
 refine ⟨rfl, ?_⟩
 refine ⟨rfl, _, rfl, ?_⟩
 refine splitB.mk (fun hb47 => ?_) (fun hb47 => ?_)
 replace h := T_beq hb47 h
 refine .direct ?_
 refine ⟨rfl, ?_⟩
 refine ⟨rfl, _, rfl, ?_⟩
 obtain ⟨v48, hv49, h⟩ := bind_some h
 refine ⟨_, ACall.pure0 (ok_i_goodName hv49) _ rfl (fun _ => rfl), ?_⟩
 rintro _ _ ⟨rfl, rfl⟩
 obtain rfl := Option.some.inj h
 exact ⟨[], .bool v48, [], by decide, (show 0 ≤ 0 by decide), .bool_eq rfl, trivial, rfl, rfl⟩
 replace h := F_beq hb47 h
 refine .direct ?_
 refine ⟨rfl, ?_⟩
 refine ⟨rfl, _, rfl, ?_⟩
 obtain rfl := Option.some.inj h
 exact ⟨[], .bool (a0.fT == ([] : Str)), [], by decide, (show 0 ≤ 0 by decide), .bool_eq rfl, trivial, rfl, rfl⟩
def m_s_HasTarget (a0 : Int) : Option (Bool) :=
 (if a0 = 27 then
 some true
 else
 (if a0 = 28 then
 some true
 else
 (if a0 = 29 then
 some true
 else
 (if a0 = 44 then
 some true
 else
 (if a0 = 45 then
 some true
 else
 (if a0 = 49 then
 some true
 else
 (if a0 = 52 then
 some true
 else
 some false)))))))
theorem ok_s_HasTarget {a0 : Int} {r : Bool} (h : m_s_HasTarget a0 = some r) : ACall Try.prog 30 [.int .i64 a0] [] (fun res h => res = .bool r ∧ h = []) := by
 refine ACall.of_vc tabT_ok mixed Try.func30 rfl (by kernel_rfl) _ _ _ rfl (by kernel_rfl) ?_
 unfold m_s_HasTarget at h
 refine .direct ?_
 refine .direct ?_
 refine .direct ?_
 refine .direct ?_
 refine .direct ?_
 refine splitB.mk (fun hb1 => ?_) (fun hb1 => ?_)
 replace h := T_beq hb1 h
 refine splitB_kt hb1 ?_
 refine .direct ?_
 obtain rfl := Option.some.inj h
 exact ⟨[], .bool true, [], by decide, (show 0 ≤ 0 by decide), .bool_eq rfl, trivial, rfl, rfl⟩
 replace h := F_beq hb1 h
 refine .direct ?_
 refine splitB.mk (fun hb2 => ?_) (fun hb2 => ?_)
 replace h := T_beq hb2 h
 refine splitB_kt hb2 ?_
 refine .direct ?_
 obtain rfl := Option.some.inj h
 exact ⟨[], .bool true, [], by decide, (show 0 ≤ 0 by decide), .bool_eq rfl, trivial, rfl, rfl⟩
 replace h := F_beq hb2 h
 refine .direct ?_
 refine splitB.mk (fun hb3 => ?_) (fun hb3 => ?_)
 replace h := T_beq hb3 h
 refine splitB_kt hb3 ?_
 refine .direct ?_
 obtain rfl := Option.some.inj h
 exact ⟨[], .bool true, [], by decide, (show 0 ≤ 0 by decide), .bool_eq rfl, trivial, rfl, rfl⟩
 replace h := F_beq hb3 h
 refine .direct ?_
 refine splitB.mk (fun hb4 => ?_) (fun hb4 => ?_)
 replace h := T_beq hb4 h
 refine splitB_kt hb4 ?_
 refine .direct ?_
 obtain rfl := Option.some.inj h
 exact ⟨[], .bool true, [], by decide, (show 0 ≤ 0 by decide), .bool_eq rfl, trivial, rfl, rfl⟩
 replace h := F_beq hb4 h
 refine .direct ?_
 refine splitB.mk (fun hb5 => ?_) (fun hb5 => ?_)
 replace h := T_beq hb5 h
 refine splitB_kt hb5 ?_
 refine .direct ?_
 obtain rfl := Option.some.inj h
 exact ⟨[], .bool true, [], by decide, (show 0 ≤ 0 by decide), .bool_eq rfl, trivial, rfl, rfl⟩
 replace h := F_beq hb5 h
 refine .direct ?_
 refine splitB.mk (fun hb6 => ?_) (fun hb6 => ?_)
 replace h := T_beq hb6 h
 refine splitB_kt hb6 ?_
 refine .direct ?_
 obtain rfl := Option.some.inj h
 exact ⟨[], .bool true, [], by decide, (show 0 ≤ 0 by decide), .bool_eq rfl, trivial, rfl, rfl⟩
 replace h := F_beq hb6 h
 refine splitB.mk (fun hb7 => ?_) (fun hb7 => ?_)
 replace h := T_beq hb7 h
 refine .direct ?_
 obtain rfl := Option.some.inj h
 exact ⟨[], .bool true, [], by decide, (show 0 ≤ 0 by decide), .bool_eq rfl, trivial, rfl, rfl⟩
 replace h := F_beq hb7 h
 refine .direct ?_
 obtain rfl := Option.some.inj h
 exact ⟨[], .bool false, [], by decide, (show 0 ≤ 0 by decide), .bool_eq rfl, trivial, rfl, rfl⟩
def m_s_IsFinal (a0 : Int) : Option (Bool) :=
 (if a0 = 27 then
 some true
 else
 (if a0 = 42 then
 some true
 else
 (if a0 = 43 then
 some true
 else
 some (a0 == 49))))
theorem ok_s_IsFinal {a0 : Int} {r : Bool} (h : m_s_IsFinal a0 = some r) : ACall Try.prog 61 [.int .i64 a0] [] (fun res h => res = .bool r ∧ h = []) := by
 refine ACall.of_vc tabT_ok mixed Try.func61 rfl (by kernel_rfl) _ _ _ rfl (by kernel_rfl) ?_
 unfold m_s_IsFinal at h
 refine .direct ?_
 refine .direct ?_
 refine splitB.mk (fun hb1 => ?_) (fun hb1 => ?_)
 replace h := T_beq hb1 h
 refine splitB_t ?_
 refine splitB_t ?_
 refine splitB_t ?_
 refine splitB_t ?_
 refine splitB_t ?_
 refine splitB_t ?_
 refine splitB_t ?_
 refine splitB_t ?_
 obtain rfl := Option.some.inj h
 exact ⟨[], .bool true, [], by decide, (show 0 ≤ 0 by decide), .bool_eq rfl, trivial, rfl, rfl⟩
 replace h := F_beq hb1 h
 refine splitB_f ?_
 refine splitB_f ?_
 refine splitB.mk (fun hb2 => ?_) (fun hb2 => ?_)
 replace h := T_beq hb2 h
 refine splitB_t ?_
 refine splitB_t ?_
 refine splitB_t ?_
 refine splitB_t ?_
 refine splitB_t ?_
 obtain rfl := Option.some.inj h
 exact ⟨[], .bool true, [], by decide, (show 0 ≤ 0 by decide), .bool_eq rfl, trivial, rfl, rfl⟩
 replace h := F_beq hb2 h
 refine splitB_f ?_
 refine splitB_f ?_
 refine splitB.mk (fun hb3 => ?_) (fun hb3 => ?_)
 replace h := T_beq hb3 h
 refine splitB_t ?_
 refine splitB_t ?_
 obtain rfl := Option.some.inj h
 exact ⟨[], .bool true, [], by decide, (show 0 ≤ 0 by decide), .bool_eq rfl, trivial, rfl, rfl⟩
 replace h := F_beq hb3 h
 refine splitB_f ?_
 refine splitB_f ?_
 obtain rfl := Option.some.inj h
 exact ⟨[], .bool (a0 == 49), [], by decide, (show 0 ≤ 0 by decide), .bool_eq rfl, trivial, rfl, rfl⟩
def m_s_InsNeed (a0 : TIns) : Option (Int) :=
 (
 (if a0.fOp = 6 then
 some (a0.fOp == 6)
 else
 (if a0.fOp = 8 then
 some (a0.fOp == 8)
 else
 (if a0.fOp = 10 then
 some (a0.fOp == 10)
 else
 (if a0.fOp = 11 then
 some (a0.fOp == 11)
 else
 (if a0.fOp = 13 then
 some (a0.fOp == 13)
 else
 (if a0.fOp = 17 then
 some (a0.fOp == 17)
 else
 (if a0.fOp = 28 then
 some (a0.fOp == 28)
 else
 (if a0.fOp = 29 then
 some (a0.fOp == 29)
 else
 (if a0.fOp = 30 then
 some (a0.fOp == 30)
 else
 (if a0.fOp = 33 then
 some (a0.fOp == 33)
 else
 (if a0.fOp = 34 then
 some (a0.fOp == 34)
 else
 (if a0.fOp = 37 then
 some (a0.fOp == 37)
 else
 (if a0.fOp = 42 then
 some (a0.fOp == 42)
 else
 (if a0.fOp = 43 then
 some (a0.fOp == 43)
 else
 (if a0.fOp = 50 then
 some (a0.fOp == 50)
 else
 some (a0.fOp == 54))))))))))))))))
 : Option (Bool)) >>= fun b1 =>
 (if b1 = true then
 some 1
 else
 (
 (if a0.fOp = 12 then
 some (a0.fOp == 12)
 else
 (if a0.fOp = 16 then
 some (a0.fOp == 16)
 else
 (if a0.fOp = 41 then
 some (a0.fOp == 41)
 else
 (if a0.fOp = 51 then
 some (a0.fOp == 51)
 else
 (if a0.fOp = 52 then
 some (a0.fOp == 52)
 else
 some (a0.fOp == 53))))))
 : Option (Bool)) >>= fun b21 =>
 (if b21 = true then
 some 2
 else
 (if a0.fOp = 15 then
 some (W64 (2 + a0.fB))
 else
 (
 (if a0.fOp = 18 then
 some (a0.fOp == 18)
 else
 some (a0.fOp == 19))
 : Option (Bool)) >>= fun b32 =>
 (if b32 = true then
 some (W64 ((W64 (a0.fB.tdiv 2)) + 1))
 else
 (if a0.fOp = 20 then
 some (W64 ((W64 (a0.fB.tdiv 2)) + 2))
 else
 (if a0.fOp = 21 then
 some a0.fB
 else
 (if a0.fOp = 22 then
 some a0.fB
 else
 (if a0.fOp = 23 then
 some (W64 (a0.fB + 1))
 else
 some 0))))))))
theorem ok_s_InsNeed {a0 : TIns} {r : Int} (h : m_s_InsNeed a0 = some r) : ACall Try.prog 60 [.agg [.int .i64 a0.fOp, .int .i64 a0.fA, .int .i64 a0.fB, .str a0.fS, .str a0.fT]] [] (fun res h => res = .int .i64 r ∧ h = []) := by
 refine ACall.of_vc tabT_ok mixed Try.func60 rfl (by kernel_rfl) _ _ _ rfl (by kernel_rfl) ?_
 unfold m_s_InsNeed at h
 refine .direct ?_
 refine .direct ?_
 refine .direct ?_
 refine ⟨rfl, ?_⟩
 refine ⟨rfl, _, rfl, ?_⟩
 obtain ⟨o2, ho3, hk4⟩ := bind_some h
 replace h := ho3
 refine .cut (fun σ η => ∃ b1, b1 = o2 ∧ σ = [(1, .optr 0 0 0 0), (4, .int .i64 a0.fOp), (5, .bool b1)] ∧ η = [.row 0 5 1 53 (fun _ => [.int .i64 a0.fOp, .int .i64 a0.fA, .int .i64 a0.fB, .str a0.fS, .str a0.fT])]) ?_ ?_
 refine .direct ?_
 refine splitB.mk (fun hb5 => ?_) (fun hb5 => ?_)
 replace h := T_beq hb5 h
 exact ⟨[(1, .optr 0 0 0 0), (4, .int .i64 a0.fOp), (5, .bool (a0.fOp == 6))], [.row 0 5 1 53 (fun _ => [.int .i64 a0.fOp, .int .i64 a0.fA, .int .i64 a0.fB, .str a0.fS, .str a0.fT])], ⟨[0], by decide, (show 0 ≤ 1 by decide), ⟨.optr_eq rfl ⟨_, _, _, _, rfl⟩ ⟨_, _, _, _, rfl, Nat.zero_lt_one⟩ rfl rfl, .int_eq rfl, .bool_eq rfl, trivial⟩, ⟨⟨fun h0 => absurd (show 0 < 0 from h0) (by decide), rfl, .inl rfl, rfl, fun _ _ => ⟨.int_eq rfl, .int_eq rfl, .int_eq rfl, .str_eq rfl, .str_eq rfl, trivial⟩⟩, trivial⟩⟩, (a0.fOp == 6), Option.some.inj h, rfl, rfl⟩
 replace h := F_beq hb5 h
 refine .direct ?_
 refine splitB.mk (fun hb6 => ?_) (fun hb6 => ?_)
 replace h := T_beq hb6 h
 exact ⟨[(1, .optr 0 0 0 0), (4, .int .i64 a0.fOp), (5, .bool (a0.fOp == 8))], [.row 0 5 1 53 (fun _ => [.int .i64 a0.fOp, .int .i64 a0.fA, .int .i64 a0.fB, .str a0.fS, .str a0.fT])], ⟨[0], by decide, (show 0 ≤ 1 by decide), ⟨.optr_eq rfl ⟨_, _, _, _, rfl⟩ ⟨_, _, _, _, rfl, Nat.zero_lt_one⟩ rfl rfl, .int_eq rfl, .bool_eq rfl, trivial⟩, ⟨⟨fun h0 => absurd (show 0 < 0 from h0) (by decide), rfl, .inl rfl, rfl, fun _ _ => ⟨.int_eq rfl, .int_eq rfl, .int_eq rfl, .str_eq rfl, .str_eq rfl, trivial⟩⟩, trivial⟩⟩, (a0.fOp == 8), Option.some.inj h, rfl, rfl⟩
 replace h := F_beq hb6 h
 refine .direct ?_
 refine splitB.mk (fun hb7 => ?_) (fun hb7 => ?_)
 replace h := T_beq hb7 h
 exact ⟨[(1, .optr 0 0 0 0), (4, .int .i64 a0.fOp), (5, .bool (a0.fOp == 10))], [.row 0 5 1 53 (fun _ => [.int .i64 a0.fOp, .int .i64 a0.fA, .int .i64 a0.fB, .str a0.fS, .str a0.fT])], ⟨[0], by decide, (show 0 ≤ 1 by decide), ⟨.optr_eq rfl ⟨_, _, _, _, rfl⟩ ⟨_, _, _, _, rfl, Nat.zero_lt_one⟩ rfl rfl, .int_eq rfl, .bool_eq rfl, trivial⟩, ⟨⟨fun h0 => absurd (show 0 < 0 from h0) (by decide), rfl, .inl rfl, rfl, fun _ _ => ⟨.int_eq rfl, .int_eq rfl, .int_eq rfl, .str_eq rfl, .str_eq rfl, trivial⟩⟩, trivial⟩⟩, (a0.fOp == 10), Option.some.inj h, rfl, rfl⟩
 replace h := F_beq hb7 h
 refine .direct ?_
 refine splitB.mk (fun hb8 => ?_) (fun hb8 => ?_)
 replace h := T_beq hb8 h
 exact ⟨[(1, .optr 0 0 0 0), (4, .int .i64 a0.fOp), (5, .bool (a0.fOp == 11))], [.row 0 5 1 53 (fun _ => [.int .i64 a0.fOp, .int .i64 a0.fA, .int .i64 a0.fB, .str a0.fS, .str a0.fT])], ⟨[0], by decide, (show 0 ≤ 1 by decide), ⟨.optr_eq rfl ⟨_, _, _, _, rfl⟩ ⟨_, _, _, _, rfl, Nat.zero_lt_one⟩ rfl rfl, .int_eq rfl, .bool_eq rfl, trivial⟩, ⟨⟨fun h0 => absurd (show 0 < 0 from h0) (by decide), rfl, .inl rfl, rfl, fun _ _ => ⟨.int_eq rfl, .int_eq rfl, .int_eq rfl, .str_eq rfl, .str_eq rfl, trivial⟩⟩, trivial⟩⟩, (a0.fOp == 11), Option.some.inj h, rfl, rfl⟩
 replace h := F_beq hb8 h
 refine .direct ?_
 refine splitB.mk (fun hb9 => ?_) (fun hb9 => ?_)
 replace h := T_beq hb9 h
 exact ⟨[(1, .optr 0 0 0 0), (4, .int .i64 a0.fOp), (5, .bool (a0.fOp == 13))], [.row 0 5 1 53 (fun _ => [.int .i64 a0.fOp, .int .i64 a0.fA, .int .i64 a0.fB, .str a0.fS, .str a0.fT])], ⟨[0], by decide, (show 0 ≤ 1 by decide), ⟨.optr_eq rfl ⟨_, _, _, _, rfl⟩ ⟨_, _, _, _, rfl, Nat.zero_lt_one⟩ rfl rfl, .int_eq rfl, .bool_eq rfl, trivial⟩, ⟨⟨fun h0 => absurd (show 0 < 0 from h0) (by decide), rfl, .inl rfl, rfl, fun _ _ => ⟨.int_eq rfl, .int_eq rfl, .int_eq rfl, .str_eq rfl, .str_eq rfl, trivial⟩⟩, trivial⟩⟩, (a0.fOp == 13), Option.some.inj h, rfl, rfl⟩
 replace h := F_beq hb9 h
 refine .direct ?_
 refine splitB.mk (fun hb10 => ?_) (fun hb10 => ?_)
 replace h := T_beq hb10 h
 exact ⟨[(1, .optr 0 0 0 0), (4, .int .i64 a0.fOp), (5, .bool (a0.fOp == 17))], [.row 0 5 1 53 (fun _ => [.int .i64 a0.fOp, .int .i64 a0.fA, .int .i64 a0.fB, .str a0.fS, .str a0.fT])], ⟨[0], by decide, (show 0 ≤ 1 by decide), ⟨.optr_eq rfl ⟨_, _, _, _, rfl⟩ ⟨_, _, _, _, rfl, Nat.zero_lt_one⟩ rfl rfl, .int_eq rfl, .bool_eq rfl, trivial⟩, ⟨⟨fun h0 => absurd (show 0 < 0 from h0) (by decide), rfl, .inl rfl, rfl, fun _ _ => ⟨.int_eq rfl, .int_eq rfl, .int_eq rfl, .str_eq rfl, .str_eq rfl, trivial⟩⟩, trivial⟩⟩, (a0.fOp == 17), Option.some.inj h, rfl, rfl⟩
 replace h := F_beq hb10 h
 refine .direct ?_
 refine splitB.mk (fun hb11 => ?_) (fun hb11 => ?_)
 replace h := T_beq hb11 h
 exact ⟨[(1, .optr 0 0 0 0), (4, .int .i64 a0.fOp), (5, .bool (a0.fOp == 28))], [.row 0 5 1 53 (fun _ => [.int .i64 a0.fOp, .int .i64 a0.fA, .int .i64 a0.fB, .str a0.fS, .str a0.fT])], ⟨[0], by decide, (show 0 ≤ 1 by decide), ⟨.optr_eq rfl ⟨_, _, _, _, rfl⟩ ⟨_, _, _, _, rfl, Nat.zero_lt_one⟩ rfl rfl, .int_eq rfl, .bool_eq rfl, trivial⟩, ⟨⟨fun h0 => absurd (show 0 < 0 from h0) (by decide), rfl, .inl rfl, rfl, fun _ _ => ⟨.int_eq rfl, .int_eq rfl, .int_eq rfl, .str_eq rfl, .str_eq rfl, trivial⟩⟩, trivial⟩⟩, (a0.fOp == 28), Option.some.inj h, rfl, rfl⟩
 replace h := F_beq hb11 h
 refine .direct ?_
 refine splitB.mk (fun hb12 => ?_) (fun hb12 => ?_)
 replace h := T_beq hb12 h
 exact ⟨[(1, .optr 0 0 0 0), (4, .int .i64 a0.fOp), (5, .bool (a0.fOp == 29))], [.row 0 5 1 53 (fun _ => [.int .i64 a0.fOp, .int .i64 a0.fA, .int .i64 a0.fB, .str a0.fS, .str a0.fT])], ⟨[0], by decide, (show 0 ≤ 1 by decide), ⟨.optr_eq rfl ⟨_, _, _, _, rfl⟩ ⟨_, _, _, _, rfl, Nat.zero_lt_one⟩ rfl rfl, .int_eq rfl, .bool_eq rfl, trivial⟩, ⟨⟨fun h0 => absurd (show 0 < 0 from h0) (by decide), rfl, .inl rfl, rfl, fun _ _ => ⟨.int_eq rfl, .int_eq rfl, .int_eq rfl, .str_eq rfl, .str_eq rfl, trivial⟩⟩, trivial⟩⟩, (a0.fOp == 29), Option.some.inj h, rfl, rfl⟩
 replace h := F_beq hb12 h
 refine .direct ?_
 refine splitB.mk (fun hb13 => ?_) (fun hb13 => ?_)
 replace h := T_beq hb13 h
 exact ⟨[(1, .optr 0 0 0 0), (4, .int .i64 a0.fOp), (5, .bool (a0.fOp == 30))], [.row 0 5 1 53 (fun _ => [.int .i64 a0.fOp, .int .i64 a0.fA, .int .i64 a0.fB, .str a0.fS, .str a0.fT])], ⟨[0], by decide, (show 0 ≤ 1 by decide), ⟨.optr_eq rfl ⟨_, _, _, _, rfl⟩ ⟨_, _, _, _, rfl, Nat.zero_lt_one⟩ rfl rfl, .int_eq rfl, .bool_eq rfl, trivial⟩, ⟨⟨fun h0 => absurd (show 0 < 0 from h0) (by decide), rfl, .inl rfl, rfl, fun _ _ => ⟨.int_eq rfl, .int_eq rfl, .int_eq rfl, .str_eq rfl, .str_eq rfl, trivial⟩⟩, trivial⟩⟩, (a0.fOp == 30), Option.some.inj h, rfl, rfl⟩
 replace h := F_beq hb13 h
 refine .direct ?_
 refine splitB.mk (fun hb14 => ?_) (fun hb14 => ?_)
 replace h := T_beq hb14 h
 exact ⟨[(1, .optr 0 0 0 0), (4, .int .i64 a0.fOp), (5, .bool (a0.fOp == 33))], [.row 0 5 1 53 (fun _ => [.int .i64 a0.fOp, .int .i64 a0.fA, .int .i64 a0.fB, .str a0.fS, .str a0.fT])], ⟨[0], by decide, (show 0 ≤ 1 by decide), ⟨.optr_eq rfl ⟨_, _, _, _, rfl⟩ ⟨_, _, _, _, rfl, Nat.zero_lt_one⟩ rfl rfl, .int_eq rfl, .bool_eq rfl, trivial⟩, ⟨⟨fun h0 => absurd (show 0 < 0 from h0) (by decide), rfl, .inl rfl, rfl, fun _ _ => ⟨.int_eq rfl, .int_eq rfl, .int_eq rfl, .str_eq rfl, .str_eq rfl, trivial⟩⟩, trivial⟩⟩, (a0.fOp == 33), Option.some.inj h, rfl, rfl⟩
 replace h := F_beq hb14 h
 refine .direct ?_
 refine splitB.mk (fun hb15 => ?_) (fun hb15 => ?_)
 replace h := T_beq hb15 h
 exact ⟨[(1, .optr 0 0 0 0), (4, .int .i64 a0.fOp), (5, .bool (a0.fOp == 34))], [.row 0 5 1 53 (fun _ => [.int .i64 a0.fOp, .int .i64 a0.fA, .int .i64 a0.fB, .str a0.fS, .str a0.fT])], ⟨[0], by decide, (show 0 ≤ 1 by decide), ⟨.optr_eq rfl ⟨_, _, _, _, rfl⟩ ⟨_, _, _, _, rfl, Nat.zero_lt_one⟩ rfl rfl, .int_eq rfl, .bool_eq rfl, trivial⟩, ⟨⟨fun h0 => absurd (show 0 < 0 from h0) (by decide), rfl, .inl rfl, rfl, fun _ _ => ⟨.int_eq rfl, .int_eq rfl, .int_eq rfl, .str_eq rfl, .str_eq rfl, trivial⟩⟩, trivial⟩⟩, (a0.fOp == 34), Option.some.inj h, rfl, rfl⟩
 replace h := F_beq hb15 h
 refine .direct ?_
 refine splitB.mk (fun hb16 => ?_) (fun hb16 => ?_)
 replace h := T_beq hb16 h
 exact ⟨[(1, .optr 0 0 0 0), (4, .int .i64 a0.fOp), (5, .bool (a0.fOp == 37))], [.row 0 5 1 53 (fun _ => [.int .i64 a0.fOp, .int .i64 a0.fA, .int .i64 a0.fB, .str a0.fS, .str a0.fT])], ⟨[0], by decide, (show 0 ≤ 1 by decide), ⟨.optr_eq rfl ⟨_, _, _, _, rfl⟩ ⟨_, _, _, _, rfl, Nat.zero_lt_one⟩ rfl rfl, .int_eq rfl, .bool_eq rfl, trivial⟩, ⟨⟨fun h0 => absurd (show 0 < 0 from h0) (by decide), rfl, .inl rfl, rfl, fun _ _ => ⟨.int_eq rfl, .int_eq rfl, .int_eq rfl, .str_eq rfl, .str_eq rfl, trivial⟩⟩, trivial⟩⟩, (a0.fOp == 37), Option.some.inj h, rfl, rfl⟩
 replace h := F_beq hb16 h
 refine .direct ?_
 refine splitB.mk (fun hb17 => ?_) (fun hb17 => ?_)
 replace h := T_beq hb17 h
 exact ⟨[(1, .optr 0 0 0 0), (4, .int .i64 a0.fOp), (5, .bool (a0.fOp == 42))], [.row 0 5 1 53 (fun _ => [.int .i64 a0.fOp, .int .i64 a0.fA, .int .i64 a0.fB, .str a0.fS, .str a0.fT])], ⟨[0], by decide, (show 0 ≤ 1 by decide), ⟨.optr_eq rfl ⟨_, _, _, _, rfl⟩ ⟨_, _, _, _, rfl, Nat.zero_lt_one⟩ rfl rfl, .int_eq rfl, .bool_eq rfl, trivial⟩, ⟨⟨fun h0 => absurd (show 0 < 0 from h0) (by decide), rfl, .inl rfl, rfl, fun _ _ => ⟨.int_eq rfl, .int_eq rfl, .int_eq rfl, .str_eq rfl, .str_eq rfl, trivial⟩⟩, trivial⟩⟩, (a0.fOp == 42), Option.some.inj h, rfl, rfl⟩
 replace h := F_beq hb17 h
 refine .direct ?_
 refine splitB.mk (fun hb18 => ?_) (fun hb18 => ?_)
 replace h := T_beq hb18 h
 exact ⟨[(1, .optr 0 0 0 0), (4, .int .i64 a0.fOp), (5, .bool (a0.fOp == 43))], [.row 0 5 1 53 (fun _ => [.int .i64 a0.fOp, .int .i64 a0.fA, .int .i64 a0.fB, .str a0.fS, .str a0.fT])], ⟨[0], by decide, (show 0 ≤ 1 by decide), ⟨.optr_eq rfl ⟨_, _, _, _, rfl⟩ ⟨_, _, _, _, rfl, Nat.zero_lt_one⟩ rfl rfl, .int_eq rfl, .bool_eq rfl, trivial⟩, ⟨⟨fun h0 => absurd (show 0 < 0 from h0) (by decide), rfl, .inl rfl, rfl, fun _ _ => ⟨.int_eq rfl, .int_eq rfl, .int_eq rfl, .str_eq rfl, .str_eq rfl, trivial⟩⟩, trivial⟩⟩, (a0.fOp == 43), Option.some.inj h, rfl, rfl⟩
 replace h := F_beq hb18 h
 refine .direct ?_
 refine splitB.mk (fun hb19 => ?_) (fun hb19 => ?_)
 replace h := T_beq hb19 h
 exact ⟨[(1, .optr 0 0 0 0), (4, .int .i64 a0.fOp), (5, .bool (a0.fOp == 50))], [.row 0 5 1 53 (fun _ => [.int .i64 a0.fOp, .int .i64 a0.fA, .int .i64 a0.fB, .str a0.fS, .str a0.fT])], ⟨[0], by decide, (show 0 ≤ 1 by decide), ⟨.optr_eq rfl ⟨_, _, _, _, rfl⟩ ⟨_, _, _, _, rfl, Nat.zero_lt_one⟩ rfl rfl, .int_eq rfl, .bool_eq rfl, trivial⟩, ⟨⟨fun h0 => absurd (show 0 < 0 from h0) (by decide), rfl, .inl rfl, rfl, fun _ _ => ⟨.int_eq rfl, .int_eq rfl, .int_eq rfl, .str_eq rfl, .str_eq rfl, trivial⟩⟩, trivial⟩⟩, (a0.fOp == 50), Option.some.inj h, rfl, rfl⟩
 replace h := F_beq hb19 h
 exact ⟨[(1, .optr 0 0 0 0), (4, .int .i64 a0.fOp), (5, .bool (a0.fOp == 54))], [.row 0 5 1 53 (fun _ => [.int .i64 a0.fOp, .int .i64 a0.fA, .int .i64 a0.fB, .str a0.fS, .str a0.fT])], ⟨[0], by decide, (show 0 ≤ 1 by decide), ⟨.optr_eq rfl ⟨_, _, _, _, rfl⟩ ⟨_, _, _, _, rfl, Nat.zero_lt_one⟩ rfl rfl, .int_eq rfl, .bool_eq rfl, trivial⟩, ⟨⟨fun h0 => absurd (show 0 < 0 from h0) (by decide), rfl, .inl rfl, rfl, fun _ _ => ⟨.int_eq rfl, .int_eq rfl, .int_eq rfl, .str_eq rfl, .str_eq rfl, trivial⟩⟩, trivial⟩⟩, (a0.fOp == 54), Option.some.inj h, rfl, rfl⟩
 rintro _ _ ⟨b1, rfl, rfl, rfl⟩
 replace h := hk4
 refine splitB.mk (fun hb20 => ?_) (fun hb20 => ?_)
 replace h := T_var hb20 h
 refine .direct ?_
 obtain rfl := Option.some.inj h
 exact ⟨[], .int .i64 1, [], by decide, (show 0 ≤ 0 by decide), .int_eq rfl, trivial, rfl, rfl⟩
 replace h := F_var hb20 h
 obtain ⟨o22, ho23, hk24⟩ := bind_some h
 replace h := ho23
 refine .cut (fun σ η => ∃ b21, b21 = o22 ∧ σ = [(1, .optr 0 0 0 0), (4, .int .i64 a0.fOp), (22, .bool b21)] ∧ η = [.row 0 5 1 53 (fun _ => [.int .i64 a0.fOp, .int .i64 a0.fA, .int .i64 a0.fB, .str a0.fS, .str a0.fT])]) ?_ ?_
 refine .direct ?_
 refine splitB.mk (fun hb25 => ?_) (fun hb25 => ?_)
 replace h := T_beq hb25 h
 exact ⟨[(1, .optr 0 0 0 0), (4, .int .i64 a0.fOp), (22, .bool (a0.fOp == 12))], [.row 0 5 1 53 (fun _ => [.int .i64 a0.fOp, .int .i64 a0.fA, .int .i64 a0.fB, .str a0.fS, .str a0.fT])], ⟨[0], by decide, (show 0 ≤ 1 by decide), ⟨.optr_eq rfl ⟨_, _, _, _, rfl⟩ ⟨_, _, _, _, rfl, Nat.zero_lt_one⟩ rfl rfl, .int_eq rfl, .bool_eq rfl, trivial⟩, ⟨⟨fun h0 => absurd (show 0 < 0 from h0) (by decide), rfl, .inl rfl, rfl, fun _ _ => ⟨.int_eq rfl, .int_eq rfl, .int_eq rfl, .str_eq rfl, .str_eq rfl, trivial⟩⟩, trivial⟩⟩, (a0.fOp == 12), Option.some.inj h, rfl, rfl⟩
 replace h := F_beq hb25 h
 refine .direct ?_
 refine splitB.mk (fun hb26 => ?_) (fun hb26 => ?_)
 replace h := T_beq hb26 h
 exact ⟨[(1, .optr 0 0 0 0), (4, .int .i64 a0.fOp), (22, .bool (a0.fOp == 16))], [.row 0 5 1 53 (fun _ => [.int .i64 a0.fOp, .int .i64 a0.fA, .int .i64 a0.fB, .str a0.fS, .str a0.fT])], ⟨[0], by decide, (show 0 ≤ 1 by decide), ⟨.optr_eq rfl ⟨_, _, _, _, rfl⟩ ⟨_, _, _, _, rfl, Nat.zero_lt_one⟩ rfl rfl, .int_eq rfl, .bool_eq rfl, trivial⟩, ⟨⟨fun h0 => absurd (show 0 < 0 from h0) (by decide), rfl, .inl rfl, rfl, fun _ _ => ⟨.int_eq rfl, .int_eq rfl, .int_eq rfl, .str_eq rfl, .str_eq rfl, trivial⟩⟩, trivial⟩⟩, (a0.fOp == 16), Option.some.inj h, rfl, rfl⟩
 replace h := F_beq hb26 h
 refine .direct ?_
 refine splitB.mk (fun hb27 => ?_) (fun hb27 => ?_)
 replace h := T_beq hb27 h
 exact ⟨[(1, .optr 0 0 0 0), (4, .int .i64 a0.fOp), (22, .bool (a0.fOp == 41))], [.row 0 5 1 53 (fun _ => [.int .i64 a0.fOp, .int .i64 a0.fA, .int .i64 a0.fB, .str a0.fS, .str a0.fT])], ⟨[0], by decide, (show 0 ≤ 1 by decide), ⟨.optr_eq rfl ⟨_, _, _, _, rfl⟩ ⟨_, _, _, _, rfl, Nat.zero_lt_one⟩ rfl rfl, .int_eq rfl, .bool_eq rfl, trivial⟩, ⟨⟨fun h0 => absurd (show 0 < 0 from h0) (by decide), rfl, .inl rfl, rfl, fun _ _ => ⟨.int_eq rfl, .int_eq rfl, .int_eq rfl, .str_eq rfl, .str_eq rfl, trivial⟩⟩, trivial⟩⟩, (a0.fOp == 41), Option.some.inj h, rfl, rfl⟩
 replace h := F_beq hb27 h
 refine .direct ?_
 refine splitB.mk (fun hb28 => ?_) (fun hb28 => ?_)
 replace h := T_beq hb28 h
 exact ⟨[(1, .optr 0 0 0 0), (4, .int .i64 a0.fOp), (22, .bool (a0.fOp == 51))], [.row 0 5 1 53 (fun _ => [.int .i64 a0.fOp, .int .i64 a0.fA, .int .i64 a0.fB, .str a0.fS, .str a0.fT])], ⟨[0], by decide, (show 0 ≤ 1 by decide), ⟨.optr_eq rfl ⟨_, _, _, _, rfl⟩ ⟨_, _, _, _, rfl, Nat.zero_lt_one⟩ rfl rfl, .int_eq rfl, .bool_eq rfl, trivial⟩, ⟨⟨fun h0 => absurd (show 0 < 0 from h0) (by decide), rfl, .inl rfl, rfl, fun _ _ => ⟨.int_eq rfl, .int_eq rfl, .int_eq rfl, .str_eq rfl, .str_eq rfl, trivial⟩⟩, trivial⟩⟩, (a0.fOp == 51), Option.some.inj h, rfl, rfl⟩
 replace h := F_beq hb28 h
 refine .direct ?_
 refine splitB.mk (fun hb29 => ?_) (fun hb29 => ?_)
 replace h := T_beq hb29 h
 exact ⟨[(1, .optr 0 0 0 0), (4, .int .i64 a0.fOp), (22, .bool (a0.fOp == 52))], [.row 0 5 1 53 (fun _ => [.int .i64 a0.fOp, .int .i64 a0.fA, .int .i64 a0.fB, .str a0.fS, .str a0.fT])], ⟨[0], by decide, (show 0 ≤ 1 by decide), ⟨.optr_eq rfl ⟨_, _, _, _, rfl⟩ ⟨_, _, _, _, rfl, Nat.zero_lt_one⟩ rfl rfl, .int_eq rfl, .bool_eq rfl, trivial⟩, ⟨⟨fun h0 => absurd (show 0 < 0 from h0) (by decide), rfl, .inl rfl, rfl, fun _ _ => ⟨.int_eq rfl, .int_eq rfl, .int_eq rfl, .str_eq rfl, .str_eq rfl, trivial⟩⟩, trivial⟩⟩, (a0.fOp == 52), Option.some.inj h, rfl, rfl⟩
 replace h := F_beq hb29 h
 exact ⟨[(1, .optr 0 0 0 0), (4, .int .i64 a0.fOp), (22, .bool (a0.fOp == 53))], [.row 0 5 1 53 (fun _ => [.int .i64 a0.fOp, .int .i64 a0.fA, .int .i64 a0.fB, .str a0.fS, .str a0.fT])], ⟨[0], by decide, (show 0 ≤ 1 by decide), ⟨.optr_eq rfl ⟨_, _, _, _, rfl⟩ ⟨_, _, _, _, rfl, Nat.zero_lt_one⟩ rfl rfl, .int_eq rfl, .bool_eq rfl, trivial⟩, ⟨⟨fun h0 => absurd (show 0 < 0 from h0) (by decide), rfl, .inl rfl, rfl, fun _ _ => ⟨.int_eq rfl, .int_eq rfl, .int_eq rfl, .str_eq rfl, .str_eq rfl, trivial⟩⟩, trivial⟩⟩, (a0.fOp == 53), Option.some.inj h, rfl, rfl⟩
 rintro _ _ ⟨b21, rfl, rfl, rfl⟩
 replace h := hk24
 refine splitB.mk (fun hb30 => ?_) (fun hb30 => ?_)
 replace h := T_var hb30 h
 refine .direct ?_
 obtain rfl := Option.some.inj h
 exact ⟨[], .int .i64 2, [], by decide, (show 0 ≤ 0 by decide), .int_eq rfl, trivial, rfl, rfl⟩
 replace h := F_var hb30 h
 refine .direct ?_
 refine splitB.mk (fun hb31 => ?_) (fun hb31 => ?_)
 replace h := T_beq hb31 h
 refine .direct ?_
 refine ⟨rfl, ?_⟩
 refine ⟨rfl, _, rfl, ?_⟩
 obtain rfl := Option.some.inj h
 exact ⟨[], .int .i64 (W64 (2 + a0.fB)), [], by decide, (show 0 ≤ 0 by decide), .int_eq rfl, trivial, rfl, rfl⟩
 replace h := F_beq hb31 h
 obtain ⟨o33, ho34, hk35⟩ := bind_some h
 replace h := ho34
 refine .cut (fun σ η => ∃ b32, b32 = o33 ∧ σ = [(1, .optr 0 0 0 0), (4, .int .i64 a0.fOp), (34, .bool b32)] ∧ η = [.row 0 5 1 53 (fun _ => [.int .i64 a0.fOp, .int .i64 a0.fA, .int .i64 a0.fB, .str a0.fS, .str a0.fT])]) ?_ ?_
 refine .direct ?_
 refine splitB.mk (fun hb36 => ?_) (fun hb36 => ?_)
 replace h := T_beq hb36 h
 exact ⟨[(1, .optr 0 0 0 0), (4, .int .i64 a0.fOp), (34, .bool (a0.fOp == 18))], [.row 0 5 1 53 (fun _ => [.int .i64 a0.fOp, .int .i64 a0.fA, .int .i64 a0.fB, .str a0.fS, .str a0.fT])], ⟨[0], by decide, (show 0 ≤ 1 by decide), ⟨.optr_eq rfl ⟨_, _, _, _, rfl⟩ ⟨_, _, _, _, rfl, Nat.zero_lt_one⟩ rfl rfl, .int_eq rfl, .bool_eq rfl, trivial⟩, ⟨⟨fun h0 => absurd (show 0 < 0 from h0) (by decide), rfl, .inl rfl, rfl, fun _ _ => ⟨.int_eq rfl, .int_eq rfl, .int_eq rfl, .str_eq rfl, .str_eq rfl, trivial⟩⟩, trivial⟩⟩, (a0.fOp == 18), Option.some.inj h, rfl, rfl⟩
 replace h := F_beq hb36 h
 exact ⟨[(1, .optr 0 0 0 0), (4, .int .i64 a0.fOp), (34, .bool (a0.fOp == 19))], [.row 0 5 1 53 (fun _ => [.int .i64 a0.fOp, .int .i64 a0.fA, .int .i64 a0.fB, .str a0.fS, .str a0.fT])], ⟨[0], by decide, (show 0 ≤ 1 by decide), ⟨.optr_eq rfl ⟨_, _, _, _, rfl⟩ ⟨_, _, _, _, rfl, Nat.zero_lt_one⟩ rfl rfl, .int_eq rfl, .bool_eq rfl, trivial⟩, ⟨⟨fun h0 => absurd (show 0 < 0 from h0) (by decide), rfl, .inl rfl, rfl, fun _ _ => ⟨.int_eq rfl, .int_eq rfl, .int_eq rfl, .str_eq rfl, .str_eq rfl, trivial⟩⟩, trivial⟩⟩, (a0.fOp == 19), Option.some.inj h, rfl, rfl⟩
 rintro _ _ ⟨b32, rfl, rfl, rfl⟩
 replace h := hk35
 refine splitB.mk (fun hb37 => ?_) (fun hb37 => ?_)
 replace h := T_var hb37 h
 refine .direct ?_
 refine ⟨rfl, ?_⟩
 refine ⟨rfl, _, rfl, ?_⟩
 refine ⟨by decide, ?_⟩
 obtain rfl := Option.some.inj h
 exact ⟨[], .int .i64 (W64 ((W64 (a0.fB.tdiv 2)) + 1)), [], by decide, (show 0 ≤ 0 by decide), .int_eq rfl, trivial, rfl, rfl⟩
 replace h := F_var hb37 h
 refine .direct ?_
 refine splitB.mk (fun hb38 => ?_) (fun hb38 => ?_)
 replace h := T_beq hb38 h
 refine .direct ?_
 refine ⟨rfl, ?_⟩
 refine ⟨rfl, _, rfl, ?_⟩
 refine ⟨by decide, ?_⟩
 obtain rfl := Option.some.inj h
 exact ⟨[], .int .i64 (W64 ((W64 (a0.fB.tdiv 2)) + 2)), [], by decide, (show 0 ≤ 0 by decide), .int_eq rfl, trivial, rfl, rfl⟩
 replace h := F_beq hb38 h
 refine .direct ?_
 refine .direct ?_
 refine splitB.mk (fun hb39 => ?_) (fun hb39 => ?_)
 replace h := T_beq hb39 h
 refine splitB_kt hb39 ?_
 refine .direct ?_
 refine ⟨rfl, ?_⟩
 refine ⟨rfl, _, rfl, ?_⟩
 obtain rfl := Option.some.inj h
 exact ⟨[], .int .i64 a0.fB, [], by decide, (show 0 ≤ 0 by decide), .int_eq rfl, trivial, rfl, rfl⟩
 replace h := F_beq hb39 h
 refine splitB.mk (fun hb40 => ?_) (fun hb40 => ?_)
 replace h := T_beq hb40 h
 refine .direct ?_
 refine ⟨rfl, ?_⟩
 refine ⟨rfl, _, rfl, ?_⟩
 obtain rfl := Option.some.inj h
 exact ⟨[], .int .i64 a0.fB, [], by decide, (show 0 ≤ 0 by decide), .int_eq rfl, trivial, rfl, rfl⟩
 replace h := F_beq hb40 h
 refine .direct ?_
 refine splitB.mk (fun hb41 => ?_) (fun hb41 => ?_)
 replace h := T_beq hb41 h
 refine .direct ?_
 refine ⟨rfl, ?_⟩
 refine ⟨rfl, _, rfl, ?_⟩
 obtain rfl := Option.some.inj h
 exact ⟨[], .int .i64 (W64 (a0.fB + 1)), [], by decide, (show 0 ≤ 0 by decide), .int_eq rfl, trivial, rfl, rfl⟩
 replace h := F_beq hb41 h
 refine .direct ?_
 obtain rfl := Option.some.inj h
 exact ⟨[], .int .i64 0, [], by decide, (show 0 ≤ 0 by decide), .int_eq rfl, trivial, rfl, rfl⟩
def m_s_InsChange (a0 : TIns) : Option (Int) :=
 (
 (if a0.fOp = 2 then
 some (a0.fOp == 2)
 else
 (if a0.fOp = 3 then
 some (a0.fOp == 3)
 else
 (if a0.fOp = 4 then
 some (a0.fOp == 4)
 else
 (if a0.fOp = 5 then
 some (a0.fOp == 5)
 else
 (if a0.fOp = 7 then
 some (a0.fOp == 7)
 else
 (if a0.fOp = 9 then
 some (a0.fOp == 9)
 else
 (if a0.fOp = 14 then
 some (a0.fOp == 14)
 else
 (if a0.fOp = 24 then
 some (a0.fOp == 24)
 else
 (if a0.fOp = 25 then
 some (a0.fOp == 25)
 else
 (if a0.fOp = 40 then
 some (a0.fOp == 40)
 else
 (if a0.fOp = 50 then
 some (a0.fOp == 50)
 else
 some (a0.fOp == 56))))))))))))
 : Option (Bool)) >>= fun b1 =>
 (if b1 = true then
 some 1
 else
 (
 (if a0.fOp = 10 then
 some (a0.fOp == 10)
 else
 (if a0.fOp = 12 then
 some (a0.fOp == 12)
 else
 (if a0.fOp = 16 then
 some (a0.fOp == 16)
 else
 (if a0.fOp = 28 then
 some (a0.fOp == 28)
 else
 (if a0.fOp = 29 then
 some (a0.fOp == 29)
 else
 (if a0.fOp = 30 then
 some (a0.fOp == 30)
 else
 (if a0.fOp = 33 then
 some (a0.fOp == 33)
 else
 (if a0.fOp = 34 then
 some (a0.fOp == 34)
 else
 (if a0.fOp = 37 then
 some (a0.fOp == 37)
 else
 (if a0.fOp = 41 then
 some (a0.fOp == 41)
 else
 (if a0.fOp = 42 then
 some (a0.fOp == 42)
 else
 some (a0.fOp == 43))))))))))))
 : Option (Bool)) >>= fun b17 =>
 (if b17 = true then
 some (-1)
 else
 (if a0.fOp = 15 then
 some (W64 ((-1) - a0.fB))
 else
 (
 (if a0.fOp = 18 then
 some (a0.fOp == 18)
 else
 some (a0.fOp == 19))
 : Option (Bool)) >>= fun b34 =>
 (if b34 = true then
 some (W64 (0 - (W64 (a0.fB.tdiv 2))))
 else
 (if a0.fOp = 20 then
 some (W64 ((W64 (0 - (W64 (a0.fB.tdiv 2)))) - 1))
 else
 (
 (if a0.fOp = 21 then
 some (a0.fOp == 21)
 else
 some (a0.fOp == 22))
 : Option (Bool)) >>= fun b41 =>
 (if b41 = true then
 some (W64 (0 - a0.fB))
 else
 (if a0.fOp = 23 then
 some (W64 ((W64 (0 - a0.fB)) - 1))
 else
 (if a0.fOp = 52 then
 some (W64 (1 + a0.fB))
 else
 (if a0.fOp = 53 then
 some (-2)
 else
 some 0)))))))))
theorem ok_s_InsChange {a0 : TIns} {r : Int} (h : m_s_InsChange a0 = some r) : ACall Try.prog 63 [.agg [.int .i64 a0.fOp, .int .i64 a0.fA, .int .i64 a0.fB, .str a0.fS, .str a0.fT]] [] (fun res h => res = .int .i64 r ∧ h = []) := by
 refine ACall.of_vc tabT_ok mixed Try.func63 rfl (by kernel_rfl) _ _ _ rfl (by kernel_rfl) ?_
 unfold m_s_InsChange at h
 refine .direct ?_
 refine .direct ?_
 refine .direct ?_
 refine ⟨rfl, ?_⟩
 refine ⟨rfl, _, rfl, ?_⟩
 obtain ⟨o2, ho3, hk4⟩ := bind_some h
 replace h := ho3
 refine .cut (fun σ η => ∃ b1, b1 = o2 ∧ σ = [(1, .optr 0 0 0 0), (4, .int .i64 a0.fOp), (5, .bool b1)] ∧ η = [.row 0 5 1 53 (fun _ => [.int .i64 a0.fOp, .int .i64 a0.fA, .int .i64 a0.fB, .str a0.fS, .str a0.fT])]) ?_ ?_
 refine .direct ?_
 refine splitB.mk (fun hb5 => ?_) (fun hb5 => ?_)
 replace h := T_beq hb5 h
 exact ⟨[(1, .optr 0 0 0 0), (4, .int .i64 a0.fOp), (5, .bool (a0.fOp == 2))], [.row 0 5 1 53 (fun _ => [.int .i64 a0.fOp, .int .i64 a0.fA, .int .i64 a0.fB, .str a0.fS, .str a0.fT])], ⟨[0], by decide, (show 0 ≤ 1 by decide), ⟨.optr_eq rfl ⟨_, _, _, _, rfl⟩ ⟨_, _, _, _, rfl, Nat.zero_lt_one⟩ rfl rfl, .int_eq rfl, .bool_eq rfl, trivial⟩, ⟨⟨fun h0 => absurd (show 0 < 0 from h0) (by decide), rfl, .inl rfl, rfl, fun _ _ => ⟨.int_eq rfl, .int_eq rfl, .int_eq rfl, .str_eq rfl, .str_eq rfl, trivial⟩⟩, trivial⟩⟩, (a0.fOp == 2), Option.some.inj h, rfl, rfl⟩
 replace h := F_beq hb5 h
 refine .direct ?_
 refine splitB.mk (fun hb6 => ?_) (fun hb6 => ?_)
 replace h := T_beq hb6 h
 exact ⟨[(1, .optr 0 0 0 0), (4, .int .i64 a0.fOp), (5, .bool (a0.fOp == 3))], [.row 0 5 1 53 (fun _ => [.int .i64 a0.fOp, .int .i64 a0.fA, .int .i64 a0.fB, .str a0.fS, .str a0.fT])], ⟨[0], by decide, (show 0 ≤ 1 by decide), ⟨.optr_eq rfl ⟨_, _, _, _, rfl⟩ ⟨_, _, _, _, rfl, Nat.zero_lt_one⟩ rfl rfl, .int_eq rfl, .bool_eq rfl, trivial⟩, ⟨⟨fun h0 => absurd (show 0 < 0 from h0) (by decide), rfl, .inl rfl, rfl, fun _ _ => ⟨.int_eq rfl, .int_eq rfl, .int_eq rfl, .str_eq rfl, .str_eq rfl, trivial⟩⟩, trivial⟩⟩, (a0.fOp == 3), Option.some.inj h, rfl, rfl⟩
 replace h := F_beq hb6 h
 refine .direct ?_
 refine splitB.mk (fun hb7 => ?_) (fun hb7 => ?_)
 replace h := T_beq hb7 h
 exact ⟨[(1, .optr 0 0 0 0), (4, .int .i64 a0.fOp), (5, .bool (a0.fOp == 4))], [.row 0 5 1 53 (fun _ => [.int .i64 a0.fOp, .int .i64 a0.fA, .int .i64 a0.fB, .str a0.fS, .str a0.fT])], ⟨[0], by decide, (show 0 ≤ 1 by decide), ⟨.optr_eq rfl ⟨_, _, _, _, rfl⟩ ⟨_, _, _, _, rfl, Nat.zero_lt_one⟩ rfl rfl, .int_eq rfl, .bool_eq rfl, trivial⟩, ⟨⟨fun h0 => absurd (show 0 < 0 from h0) (by decide), rfl, .inl rfl, rfl, fun _ _ => ⟨.int_eq rfl, .int_eq rfl, .int_eq rfl, .str_eq rfl, .str_eq rfl, trivial⟩⟩, trivial⟩⟩, (a0.fOp == 4), Option.some.inj h, rfl, rfl⟩
 replace h := F_beq hb7 h
 refine .direct ?_
 refine splitB.mk (fun hb8 => ?_) (fun hb8 => ?_)
 replace h := T_beq hb8 h
 exact ⟨[(1, .optr 0 0 0 0), (4, .int .i64 a0.fOp), (5, .bool (a0.fOp == 5))], [.row 0 5 1 53 (fun _ => [.int .i64 a0.fOp, .int .i64 a0.fA, .int .i64 a0.fB, .str a0.fS, .str a0.fT])], ⟨[0], by decide, (show 0 ≤ 1 by decide), ⟨.optr_eq rfl ⟨_, _, _, _, rfl⟩ ⟨_, _, _, _, rfl, Nat.zero_lt_one⟩ rfl rfl, .int_eq rfl, .bool_eq rfl, trivial⟩, ⟨⟨fun h0 => absurd (show 0 < 0 from h0) (by decide), rfl, .inl rfl, rfl, fun _ _ => ⟨.int_eq rfl, .int_eq rfl, .int_eq rfl, .str_eq rfl, .str_eq rfl, trivial⟩⟩, trivial⟩⟩, (a0.fOp == 5), Option.some.inj h, rfl, rfl⟩
 replace h := F_beq hb8 h
 refine .direct ?_
 refine splitB.mk (fun hb9 => ?_) (fun hb9 => ?_)
 replace h := T_beq hb9 h
 exact ⟨[(1, .optr 0 0 0 0), (4, .int .i64 a0.fOp), (5, .bool (a0.fOp == 7))], [.row 0 5 1 53 (fun _ => [.int .i64 a0.fOp, .int .i64 a0.fA, .int .i64 a0.fB, .str a0.fS, .str a0.fT])], ⟨[0], by decide, (show 0 ≤ 1 by decide), ⟨.optr_eq rfl ⟨_, _, _, _, rfl⟩ ⟨_, _, _, _, rfl, Nat.zero_lt_one⟩ rfl rfl, .int_eq rfl, .bool_eq rfl, trivial⟩, ⟨⟨fun h0 => absurd (show 0 < 0 from h0) (by decide), rfl, .inl rfl, rfl, fun _ _ => ⟨.int_eq rfl, .int_eq rfl, .int_eq rfl, .str_eq rfl, .str_eq rfl, trivial⟩⟩, trivial⟩⟩, (a0.fOp == 7), Option.some.inj h, rfl, rfl⟩
 replace h := F_beq hb9 h
 refine .direct ?_
 refine splitB.mk (fun hb10 => ?_) (fun hb10 => ?_)
 replace h := T_beq hb10 h
 exact ⟨[(1, .optr 0 0 0 0), (4, .int .i64 a0.fOp), (5, .bool (a0.fOp == 9))], [.row 0 5 1 53 (fun _ => [.int .i64 a0.fOp, .int .i64 a0.fA, .int .i64 a0.fB, .str a0.fS, .str a0.fT])], ⟨[0], by decide, (show 0 ≤ 1 by decide), ⟨.optr_eq rfl ⟨_, _, _, _, rfl⟩ ⟨_, _, _, _, rfl, Nat.zero_lt_one⟩ rfl rfl, .int_eq rfl, .bool_eq rfl, trivial⟩, ⟨⟨fun h0 => absurd (show 0 < 0 from h0) (by decide), rfl, .inl rfl, rfl, fun _ _ => ⟨.int_eq rfl, .int_eq rfl, .int_eq rfl, .str_eq rfl, .str_eq rfl, trivial⟩⟩, trivial⟩⟩, (a0.fOp == 9), Option.some.inj h, rfl, rfl⟩
 replace h := F_beq hb10 h
 refine .direct ?_
 refine splitB.mk (fun hb11 => ?_) (fun hb11 => ?_)
 replace h := T_beq hb11 h
 exact ⟨[(1, .optr 0 0 0 0), (4, .int .i64 a0.fOp), (5, .bool (a0.fOp == 14))], [.row 0 5 1 53 (fun _ => [.int .i64 a0.fOp, .int .i64 a0.fA, .int .i64 a0.fB, .str a0.fS, .str a0.fT])], ⟨[0], by decide, (show 0 ≤ 1 by decide), ⟨.optr_eq rfl ⟨_, _, _, _, rfl⟩ ⟨_, _, _, _, rfl, Nat.zero_lt_one⟩ rfl rfl, .int_eq rfl, .bool_eq rfl, trivial⟩, ⟨⟨fun h0 => absurd (show 0 < 0 from h0) (by decide), rfl, .inl rfl, rfl, fun _ _ => ⟨.int_eq rfl, .int_eq rfl, .int_eq rfl, .str_eq rfl, .str_eq rfl, trivial⟩⟩, trivial⟩⟩, (a0.fOp == 14), Option.some.inj h, rfl, rfl⟩
 replace h := F_beq hb11 h
 refine .direct ?_
 refine splitB.mk (fun hb12 => ?_) (fun hb12 => ?_)
 replace h := T_beq hb12 h
 exact ⟨[(1, .optr 0 0 0 0), (4, .int .i64 a0.fOp), (5, .bool (a0.fOp == 24))], [.row 0 5 1 53 (fun _ => [.int .i64 a0.fOp, .int .i64 a0.fA, .int .i64 a0.fB, .str a0.fS, .str a0.fT])], ⟨[0], by decide, (show 0 ≤ 1 by decide), ⟨.optr_eq rfl ⟨_, _, _, _, rfl⟩ ⟨_, _, _, _, rfl, Nat.zero_lt_one⟩ rfl rfl, .int_eq rfl, .bool_eq rfl, trivial⟩, ⟨⟨fun h0 => absurd (show 0 < 0 from h0) (by decide), rfl, .inl rfl, rfl, fun _ _ => ⟨.int_eq rfl, .int_eq rfl, .int_eq rfl, .str_eq rfl, .str_eq rfl, trivial⟩⟩, trivial⟩⟩, (a0.fOp == 24), Option.some.inj h, rfl, rfl⟩
 replace h := F_beq hb12 h
 refine .direct ?_
 refine splitB.mk (fun hb13 => ?_) (fun hb13 => ?_)
 replace h := T_beq hb13 h
 exact ⟨[(1, .optr 0 0 0 0), (4, .int .i64 a0.fOp), (5, .bool (a0.fOp == 25))], [.row 0 5 1 53 (fun _ => [.int .i64 a0.fOp, .int .i64 a0.fA, .int .i64 a0.fB, .str a0.fS, .str a0.fT])], ⟨[0], by decide, (show 0 ≤ 1 by decide), ⟨.optr_eq rfl ⟨_, _, _, _, rfl⟩ ⟨_, _, _, _, rfl, Nat.zero_lt_one⟩ rfl rfl, .int_eq rfl, .bool_eq rfl, trivial⟩, ⟨⟨fun h0 => absurd (show 0 < 0 from h0) (by decide), rfl, .inl rfl, rfl, fun _ _ => ⟨.int_eq rfl, .int_eq rfl, .int_eq rfl, .str_eq rfl, .str_eq rfl, trivial⟩⟩, trivial⟩⟩, (a0.fOp == 25), Option.some.inj h, rfl, rfl⟩
 replace h := F_beq hb13 h
 refine .direct ?_
 refine splitB.mk (fun hb14 => ?_) (fun hb14 => ?_)
 replace h := T_beq hb14 h
 exact ⟨[(1, .optr 0 0 0 0), (4, .int .i64 a0.fOp), (5, .bool (a0.fOp == 40))], [.row 0 5 1 53 (fun _ => [.int .i64 a0.fOp, .int .i64 a0.fA, .int .i64 a0.fB, .str a0.fS, .str a0.fT])], ⟨[0], by decide, (show 0 ≤ 1 by decide), ⟨.optr_eq rfl ⟨_, _, _, _, rfl⟩ ⟨_, _, _, _, rfl, Nat.zero_lt_one⟩ rfl rfl, .int_eq rfl, .bool_eq rfl, trivial⟩, ⟨⟨fun h0 => absurd (show 0 < 0 from h0) (by decide), rfl, .inl rfl, rfl, fun _ _ => ⟨.int_eq rfl, .int_eq rfl, .int_eq rfl, .str_eq rfl, .str_eq rfl, trivial⟩⟩, trivial⟩⟩, (a0.fOp == 40), Option.some.inj h, rfl, rfl⟩
 replace h := F_beq hb14 h
 refine .direct ?_
 refine splitB.mk (fun hb15 => ?_) (fun hb15 => ?_)
 replace h := T_beq hb15 h
 exact ⟨[(1, .optr 0 0 0 0), (4, .int .i64 a0.fOp), (5, .bool (a0.fOp == 50))], [.row 0 5 1 53 (fun _ => [.int .i64 a0.fOp, .int .i64 a0.fA, .int .i64 a0.fB, .str a0.fS, .str a0.fT])], ⟨[0], by decide, (show 0 ≤ 1 by decide), ⟨.optr_eq rfl ⟨_, _, _, _, rfl⟩ ⟨_, _, _, _, rfl, Nat.zero_lt_one⟩ rfl rfl, .int_eq rfl, .bool_eq rfl, trivial⟩, ⟨⟨fun h0 => absurd (show 0 < 0 from h0) (by decide), rfl, .inl rfl, rfl, fun _ _ => ⟨.int_eq rfl, .int_eq rfl, .int_eq rfl, .str_eq rfl, .str_eq rfl, trivial⟩⟩, trivial⟩⟩, (a0.fOp == 50), Option.some.inj h, rfl, rfl⟩
 replace h := F_beq hb15 h
 exact ⟨[(1, .optr 0 0 0 0), (4, .int .i64 a0.fOp), (5, .bool (a0.fOp == 56))], [.row 0 5 1 53 (fun _ => [.int .i64 a0.fOp, .int .i64 a0.fA, .int .i64 a0.fB, .str a0.fS, .str a0.fT])], ⟨[0], by decide, (show 0 ≤ 1 by decide), ⟨.optr_eq rfl ⟨_, _, _, _, rfl⟩ ⟨_, _, _, _, rfl, Nat.zero_lt_one⟩ rfl rfl, .int_eq rfl, .bool_eq rfl, trivial⟩, ⟨⟨fun h0 => absurd (show 0 < 0 from h0) (by decide), rfl, .inl rfl, rfl, fun _ _ => ⟨.int_eq rfl, .int_eq rfl, .int_eq rfl, .str_eq rfl, .str_eq rfl, trivial⟩⟩, trivial⟩⟩, (a0.fOp == 56), Option.some.inj h, rfl, rfl⟩
 rintro _ _ ⟨b1, rfl, rfl, rfl⟩
 replace h := hk4
 refine splitB.mk (fun hb16 => ?_) (fun hb16 => ?_)
 replace h := T_var hb16 h
 refine .direct ?_
 obtain rfl := Option.some.inj h
 exact ⟨[], .int .i64 1, [], by decide, (show 0 ≤ 0 by decide), .int_eq rfl, trivial, rfl, rfl⟩
 replace h := F_var hb16 h
 obtain ⟨o18, ho19, hk20⟩ := bind_some h
 replace h := ho19
 refine .cut (fun σ η => ∃ b17, b17 = o18 ∧ σ = [(1, .optr 0 0 0 0), (4, .int .i64 a0.fOp), (18, .bool b17)] ∧ η = [.row 0 5 1 53 (fun _ => [.int .i64 a0.fOp, .int .i64 a0.fA, .int .i64 a0.fB, .str a0.fS, .str a0.fT])]) ?_ ?_
 refine .direct ?_
 refine splitB.mk (fun hb21 => ?_) (fun hb21 => ?_)
 replace h := T_beq hb21 h
 exact ⟨[(1, .optr 0 0 0 0), (4, .int .i64 a0.fOp), (18, .bool (a0.fOp == 10))], [.row 0 5 1 53 (fun _ => [.int .i64 a0.fOp, .int .i64 a0.fA, .int .i64 a0.fB, .str a0.fS, .str a0.fT])], ⟨[0], by decide, (show 0 ≤ 1 by decide), ⟨.optr_eq rfl ⟨_, _, _, _, rfl⟩ ⟨_, _, _, _, rfl, Nat.zero_lt_one⟩ rfl rfl, .int_eq rfl, .bool_eq rfl, trivial⟩, ⟨⟨fun h0 => absurd (show 0 < 0 from h0) (by decide), rfl, .inl rfl, rfl, fun _ _ => ⟨.int_eq rfl, .int_eq rfl, .int_eq rfl, .str_eq rfl, .str_eq rfl, trivial⟩⟩, trivial⟩⟩, (a0.fOp == 10), Option.some.inj h, rfl, rfl⟩
 replace h := F_beq hb21 h
 refine .direct ?_
 refine splitB.mk (fun hb22 => ?_) (fun hb22 => ?_)
 replace h := T_beq hb22 h
 exact ⟨[(1, .optr 0 0 0 0), (4, .int .i64 a0.fOp), (18, .bool (a0.fOp == 12))], [.row 0 5 1 53 (fun _ => [.int .i64 a0.fOp, .int .i64 a0.fA, .int .i64 a0.fB, .str a0.fS, .str a0.fT])], ⟨[0], by decide, (show 0 ≤ 1 by decide), ⟨.optr_eq rfl ⟨_, _, _, _, rfl⟩ ⟨_, _, _, _, rfl, Nat.zero_lt_one⟩ rfl rfl, .int_eq rfl, .bool_eq rfl, trivial⟩, ⟨⟨fun h0 => absurd (show 0 < 0 from h0) (by decide), rfl, .inl rfl, rfl, fun _ _ => ⟨.int_eq rfl, .int_eq rfl, .int_eq rfl, .str_eq rfl, .str_eq rfl, trivial⟩⟩, trivial⟩⟩, (a0.fOp == 12), Option.some.inj h, rfl, rfl⟩
 replace h := F_beq hb22 h
 refine .direct ?_
 refine splitB.mk (fun hb23 => ?_) (fun hb23 => ?_)
 replace h := T_beq hb23 h
 exact ⟨[(1, .optr 0 0 0 0), (4, .int .i64 a0.fOp), (18, .bool (a0.fOp == 16))], [.row 0 5 1 53 (fun _ => [.int .i64 a0.fOp, .int .i64 a0.fA, .int .i64 a0.fB, .str a0.fS, .str a0.fT])], ⟨[0], by decide, (show 0 ≤ 1 by decide), ⟨.optr_eq rfl ⟨_, _, _, _, rfl⟩ ⟨_, _, _, _, rfl, Nat.zero_lt_one⟩ rfl rfl, .int_eq rfl, .bool_eq rfl, trivial⟩, ⟨⟨fun h0 => absurd (show 0 < 0 from h0) (by decide), rfl, .inl rfl, rfl, fun _ _ => ⟨.int_eq rfl, .int_eq rfl, .int_eq rfl, .str_eq rfl, .str_eq rfl, trivial⟩⟩, trivial⟩⟩, (a0.fOp == 16), Option.some.inj h, rfl, rfl⟩
 replace h := F_beq hb23 h
 refine .direct ?_
 refine splitB.mk (fun hb24 => ?_) (fun hb24 => ?_)
 replace h := T_beq hb24 h
 exact ⟨[(1, .optr 0 0 0 0), (4, .int .i64 a0.fOp), (18, .bool (a0.fOp == 28))], [.row 0 5 1 53 (fun _ => [.int .i64 a0.fOp, .int .i64 a0.fA, .int .i64 a0.fB, .str a0.fS, .str a0.fT])], ⟨[0], by decide, (show 0 ≤ 1 by decide), ⟨.optr_eq rfl ⟨_, _, _, _, rfl⟩ ⟨_, _, _, _, rfl, Nat.zero_lt_one⟩ rfl rfl, .int_eq rfl, .bool_eq rfl, trivial⟩, ⟨⟨fun h0 => absurd (show 0 < 0 from h0) (by decide), rfl, .inl rfl, rfl, fun _ _ => ⟨.int_eq rfl, .int_eq rfl, .int_eq rfl, .str_eq rfl, .str_eq rfl, trivial⟩⟩, trivial⟩⟩, (a0.fOp == 28), Option.some.inj h, rfl, rfl⟩
 replace h := F_beq hb24 h
 refine .direct ?_
 refine splitB.mk (fun hb25 => ?_) (fun hb25 => ?_)
 replace h := T_beq hb25 h
 exact ⟨[(1, .optr 0 0 0 0), (4, .int .i64 a0.fOp), (18, .bool (a0.fOp == 29))], [.row 0 5 1 53 (fun _ => [.int .i64 a0.fOp, .int .i64 a0.fA, .int .i64 a0.fB, .str a0.fS, .str a0.fT])], ⟨[0], by decide, (show 0 ≤ 1 by decide), ⟨.optr_eq rfl ⟨_, _, _, _, rfl⟩ ⟨_, _, _, _, rfl, Nat.zero_lt_one⟩ rfl rfl, .int_eq rfl, .bool_eq rfl, trivial⟩, ⟨⟨fun h0 => absurd (show 0 < 0 from h0) (by decide), rfl, .inl rfl, rfl, fun _ _ => ⟨.int_eq rfl, .int_eq rfl, .int_eq rfl, .str_eq rfl, .str_eq rfl, trivial⟩⟩, trivial⟩⟩, (a0.fOp == 29), Option.some.inj h, rfl, rfl⟩
 replace h := F_beq hb25 h
 refine .direct ?_
 refine splitB.mk (fun hb26 => ?_) (fun hb26 => ?_)
 replace h := T_beq hb26 h
 exact ⟨[(1, .optr 0 0 0 0), (4, .int .i64 a0.fOp), (18, .bool (a0.fOp == 30))], [.row 0 5 1 53 (fun _ => [.int .i64 a0.fOp, .int .i64 a0.fA, .int .i64 a0.fB, .str a0.fS, .str a0.fT])], ⟨[0], by decide, (show 0 ≤ 1 by decide), ⟨.optr_eq rfl ⟨_, _, _, _, rfl⟩ ⟨_, _, _, _, rfl, Nat.zero_lt_one⟩ rfl rfl, .int_eq rfl, .bool_eq rfl, trivial⟩, ⟨⟨fun h0 => absurd (show 0 < 0 from h0) (by decide), rfl, .inl rfl, rfl, fun _ _ => ⟨.int_eq rfl, .int_eq rfl, .int_eq rfl, .str_eq rfl, .str_eq rfl, trivial⟩⟩, trivial⟩⟩, (a0.fOp == 30), Option.some.inj h, rfl, rfl⟩
 replace h := F_beq hb26 h
 refine .direct ?_
 refine splitB.mk (fun hb27 => ?_) (fun hb27 => ?_)
 replace h := T_beq hb27 h
 exact ⟨[(1, .optr 0 0 0 0), (4, .int .i64 a0.fOp), (18, .bool (a0.fOp == 33))], [.row 0 5 1 53 (fun _ => [.int .i64 a0.fOp, .int .i64 a0.fA, .int .i64 a0.fB, .str a0.fS, .str a0.fT])], ⟨[0], by decide, (show 0 ≤ 1 by decide), ⟨.optr_eq rfl ⟨_, _, _, _, rfl⟩ ⟨_, _, _, _, rfl, Nat.zero_lt_one⟩ rfl rfl, .int_eq rfl, .bool_eq rfl, trivial⟩, ⟨⟨fun h0 => absurd (show 0 < 0 from h0) (by decide), rfl, .inl rfl, rfl, fun _ _ => ⟨.int_eq rfl, .int_eq rfl, .int_eq rfl, .str_eq rfl, .str_eq rfl, trivial⟩⟩, trivial⟩⟩, (a0.fOp == 33), Option.some.inj h, rfl, rfl⟩
 replace h := F_beq hb27 h
 refine .direct ?_
 refine splitB.mk (fun hb28 => ?_) (fun hb28 => ?_)
 replace h := T_beq hb28 h
 exact ⟨[(1, .optr 0 0 0 0), (4, .int .i64 a0.fOp), (18, .bool (a0.fOp == 34))], [.row 0 5 1 53 (fun _ => [.int .i64 a0.fOp, .int .i64 a0.fA, .int .i64 a0.fB, .str a0.fS, .str a0.fT])], ⟨[0], by decide, (show 0 ≤ 1 by decide), ⟨.optr_eq rfl ⟨_, _, _, _, rfl⟩ ⟨_, _, _, _, rfl, Nat.zero_lt_one⟩ rfl rfl, .int_eq rfl, .bool_eq rfl, trivial⟩, ⟨⟨fun h0 => absurd (show 0 < 0 from h0) (by decide), rfl, .inl rfl, rfl, fun _ _ => ⟨.int_eq rfl, .int_eq rfl, .int_eq rfl, .str_eq rfl, .str_eq rfl, trivial⟩⟩, trivial⟩⟩, (a0.fOp == 34), Option.some.inj h, rfl, rfl⟩
 replace h := F_beq hb28 h
 refine .direct ?_
 refine splitB.mk (fun hb29 => ?_) (fun hb29 => ?_)
 replace h := T_beq hb29 h
 exact ⟨[(1, .optr 0 0 0 0), (4, .int .i64 a0.fOp), (18, .bool (a0.fOp == 37))], [.row 0 5 1 53 (fun _ => [.int .i64 a0.fOp, .int .i64 a0.fA, .int .i64 a0.fB, .str a0.fS, .str a0.fT])], ⟨[0], by decide, (show 0 ≤ 1 by decide), ⟨.optr_eq rfl ⟨_, _, _, _, rfl⟩ ⟨_, _, _, _, rfl, Nat.zero_lt_one⟩ rfl rfl, .int_eq rfl, .bool_eq rfl, trivial⟩, ⟨⟨fun h0 => absurd (show 0 < 0 from h0) (by decide), rfl, .inl rfl, rfl, fun _ _ => ⟨.int_eq rfl, .int_eq rfl, .int_eq rfl, .str_eq rfl, .str_eq rfl, trivial⟩⟩, trivial⟩⟩, (a0.fOp == 37), Option.some.inj h, rfl, rfl⟩
 replace h := F_beq hb29 h
 refine .direct ?_
 refine splitB.mk (fun hb30 => ?_) (fun hb30 => ?_)
 replace h := T_beq hb30 h
 exact ⟨[(1, .optr 0 0 0 0), (4, .int .i64 a0.fOp), (18, .bool (a0.fOp == 41))], [.row 0 5 1 53 (fun _ => [.int .i64 a0.fOp, .int .i64 a0.fA, .int .i64 a0.fB, .str a0.fS, .str a0.fT])], ⟨[0], by decide, (show 0 ≤ 1 by decide), ⟨.optr_eq rfl ⟨_, _, _, _, rfl⟩ ⟨_, _, _, _, rfl, Nat.zero_lt_one⟩ rfl rfl, .int_eq rfl, .bool_eq rfl, trivial⟩, ⟨⟨fun h0 => absurd (show 0 < 0 from h0) (by decide), rfl, .inl rfl, rfl, fun _ _ => ⟨.int_eq rfl, .int_eq rfl, .int_eq rfl, .str_eq rfl, .str_eq rfl, trivial⟩⟩, trivial⟩⟩, (a0.fOp == 41), Option.some.inj h, rfl, rfl⟩
 replace h := F_beq hb30 h
 refine .direct ?_
 refine splitB.mk (fun hb31 => ?_) (fun hb31 => ?_)
 replace h := T_beq hb31 h
 exact ⟨[(1, .optr 0 0 0 0), (4, .int .i64 a0.fOp), (18, .bool (a0.fOp == 42))], [.row 0 5 1 53 (fun _ => [.int .i64 a0.fOp, .int .i64 a0.fA, .int .i64 a0.fB, .str a0.fS, .str a0.fT])], ⟨[0], by decide, (show 0 ≤ 1 by decide), ⟨.optr_eq rfl ⟨_, _, _, _, rfl⟩ ⟨_, _, _, _, rfl, Nat.zero_lt_one⟩ rfl rfl, .int_eq rfl, .bool_eq rfl, trivial⟩, ⟨⟨fun h0 => absurd (show 0 < 0 from h0) (by decide), rfl, .inl rfl, rfl, fun _ _ => ⟨.int_eq rfl, .int_eq rfl, .int_eq rfl, .str_eq rfl, .str_eq rfl, trivial⟩⟩, trivial⟩⟩, (a0.fOp == 42), Option.some.inj h, rfl, rfl⟩
 replace h := F_beq hb31 h
 exact ⟨[(1, .optr 0 0 0 0), (4, .int .i64 a0.fOp), (18, .bool (a0.fOp == 43))], [.row 0 5 1 53 (fun _ => [.int .i64 a0.fOp, .int .i64 a0.fA, .int .i64 a0.fB, .str a0.fS, .str a0.fT])], ⟨[0], by decide, (show 0 ≤ 1 by decide), ⟨.optr_eq rfl ⟨_, _, _, _, rfl⟩ ⟨_, _, _, _, rfl, Nat.zero_lt_one⟩ rfl rfl, .int_eq rfl, .bool_eq rfl, trivial⟩, ⟨⟨fun h0 => absurd (show 0 < 0 from h0) (by decide), rfl, .inl rfl, rfl, fun _ _ => ⟨.int_eq rfl, .int_eq rfl, .int_eq rfl, .str_eq rfl, .str_eq rfl, trivial⟩⟩, trivial⟩⟩, (a0.fOp == 43), Option.some.inj h, rfl, rfl⟩
 rintro _ _ ⟨b17, rfl, rfl, rfl⟩
 replace h := hk20
 refine splitB.mk (fun hb32 => ?_) (fun hb32 => ?_)
 replace h := T_var hb32 h
 refine .direct ?_
 obtain rfl := Option.some.inj h
 exact ⟨[], .int .i64 (-1), [], by decide, (show 0 ≤ 0 by decide), .int_eq rfl, trivial, rfl, rfl⟩
 replace h := F_var hb32 h
 refine .direct ?_
 refine splitB.mk (fun hb33 => ?_) (fun hb33 => ?_)
 replace h := T_beq hb33 h
 refine .direct ?_
 refine ⟨rfl, ?_⟩
 refine ⟨rfl, _, rfl, ?_⟩
 obtain rfl := Option.some.inj h
 exact ⟨[], .int .i64 (W64 ((-1) - a0.fB)), [], by decide, (show 0 ≤ 0 by decide), .int_eq rfl, trivial, rfl, rfl⟩
 replace h := F_beq hb33 h
 obtain ⟨o35, ho36, hk37⟩ := bind_some h
 replace h := ho36
 refine .cut (fun σ η => ∃ b34, b34 = o35 ∧ σ = [(1, .optr 0 0 0 0), (4, .int .i64 a0.fOp), (36, .bool b34)] ∧ η = [.row 0 5 1 53 (fun _ => [.int .i64 a0.fOp, .int .i64 a0.fA, .int .i64 a0.fB, .str a0.fS, .str a0.fT])]) ?_ ?_
 refine .direct ?_
 refine splitB.mk (fun hb38 => ?_) (fun hb38 => ?_)
 replace h := T_beq hb38 h
 exact ⟨[(1, .optr 0 0 0 0), (4, .int .i64 a0.fOp), (36, .bool (a0.fOp == 18))], [.row 0 5 1 53 (fun _ => [.int .i64 a0.fOp, .int .i64 a0.fA, .int .i64 a0.fB, .str a0.fS, .str a0.fT])], ⟨[0], by decide, (show 0 ≤ 1 by decide), ⟨.optr_eq rfl ⟨_, _, _, _, rfl⟩ ⟨_, _, _, _, rfl, Nat.zero_lt_one⟩ rfl rfl, .int_eq rfl, .bool_eq rfl, trivial⟩, ⟨⟨fun h0 => absurd (show 0 < 0 from h0) (by decide), rfl, .inl rfl, rfl, fun _ _ => ⟨.int_eq rfl, .int_eq rfl, .int_eq rfl, .str_eq rfl, .str_eq rfl, trivial⟩⟩, trivial⟩⟩, (a0.fOp == 18), Option.some.inj h, rfl, rfl⟩
 replace h := F_beq hb38 h
 exact ⟨[(1, .optr 0 0 0 0), (4, .int .i64 a0.fOp), (36, .bool (a0.fOp == 19))], [.row 0 5 1 53 (fun _ => [.int .i64 a0.fOp, .int .i64 a0.fA, .int .i64 a0.fB, .str a0.fS, .str a0.fT])], ⟨[0], by decide, (show 0 ≤ 1 by decide), ⟨.optr_eq rfl ⟨_, _, _, _, rfl⟩ ⟨_, _, _, _, rfl, Nat.zero_lt_one⟩ rfl rfl, .int_eq rfl, .bool_eq rfl, trivial⟩, ⟨⟨fun h0 => absurd (show 0 < 0 from h0) (by decide), rfl, .inl rfl, rfl, fun _ _ => ⟨.int_eq rfl, .int_eq rfl, .int_eq rfl, .str_eq rfl, .str_eq rfl, trivial⟩⟩, trivial⟩⟩, (a0.fOp == 19), Option.some.inj h, rfl, rfl⟩
 rintro _ _ ⟨b34, rfl, rfl, rfl⟩
 replace h := hk37
 refine splitB.mk (fun hb39 => ?_) (fun hb39 => ?_)
 replace h := T_var hb39 h
 refine .direct ?_
 refine ⟨rfl, ?_⟩
 refine ⟨rfl, _, rfl, ?_⟩
 refine ⟨by decide, ?_⟩
 obtain rfl := Option.some.inj h
 exact ⟨[], .int .i64 (W64 (0 - (W64 (a0.fB.tdiv 2)))), [], by decide, (show 0 ≤ 0 by decide), .int_eq rfl, trivial, rfl, rfl⟩
 replace h := F_var hb39 h
 refine .direct ?_
 refine splitB.mk (fun hb40 => ?_) (fun hb40 => ?_)
 replace h := T_beq hb40 h
 refine .direct ?_
 refine ⟨rfl, ?_⟩
 refine ⟨rfl, _, rfl, ?_⟩
 refine ⟨by decide, ?_⟩
 obtain rfl := Option.some.inj h
 exact ⟨[], .int .i64 (W64 ((W64 (0 - (W64 (a0.fB.tdiv 2)))) - 1)), [], by decide, (show 0 ≤ 0 by decide), .int_eq rfl, trivial, rfl, rfl⟩
 replace h := F_beq hb40 h
 obtain ⟨o42, ho43, hk44⟩ := bind_some h
 replace h := ho43
 refine .cut (fun σ η => ∃ b41, b41 = o42 ∧ σ = [(1, .optr 0 0 0 0), (4, .int .i64 a0.fOp), (50, .bool b41)] ∧ η = [.row 0 5 1 53 (fun _ => [.int .i64 a0.fOp, .int .i64 a0.fA, .int .i64 a0.fB, .str a0.fS, .str a0.fT])]) ?_ ?_
 refine .direct ?_
 refine splitB.mk (fun hb45 => ?_) (fun hb45 => ?_)
 replace h := T_beq hb45 h
 exact ⟨[(1, .optr 0 0 0 0), (4, .int .i64 a0.fOp), (50, .bool (a0.fOp == 21))], [.row 0 5 1 53 (fun _ => [.int .i64 a0.fOp, .int .i64 a0.fA, .int .i64 a0.fB, .str a0.fS, .str a0.fT])], ⟨[0], by decide, (show 0 ≤ 1 by decide), ⟨.optr_eq rfl ⟨_, _, _, _, rfl⟩ ⟨_, _, _, _, rfl, Nat.zero_lt_one⟩ rfl rfl, .int_eq rfl, .bool_eq rfl, trivial⟩, ⟨⟨fun h0 => absurd (show 0 < 0 from h0) (by decide), rfl, .inl rfl, rfl, fun _ _ => ⟨.int_eq rfl, .int_eq rfl, .int_eq rfl, .str_eq rfl, .str_eq rfl, trivial⟩⟩, trivial⟩⟩, (a0.fOp == 21), Option.some.inj h, rfl, rfl⟩
 replace h := F_beq hb45 h
 exact ⟨[(1, .optr 0 0 0 0), (4, .int .i64 a0.fOp), (50, .bool (a0.fOp == 22))], [.row 0 5 1 53 (fun _ => [.int .i64 a0.fOp, .int .i64 a0.fA, .int .i64 a0.fB, .str a0.fS, .str a0.fT])], ⟨[0], by decide, (show 0 ≤ 1 by decide), ⟨.optr_eq rfl ⟨_, _, _, _, rfl⟩ ⟨_, _, _, _, rfl, Nat.zero_lt_one⟩ rfl rfl, .int_eq rfl, .bool_eq rfl, trivial⟩, ⟨⟨fun h0 => absurd (show 0 < 0 from h0) (by decide), rfl, .inl rfl, rfl, fun _ _ => ⟨.int_eq rfl, .int_eq rfl, .int_eq rfl, .str_eq rfl, .str_eq rfl, trivial⟩⟩, trivial⟩⟩, (a0.fOp == 22), Option.some.inj h, rfl, rfl⟩
 rintro _ _ ⟨b41, rfl, rfl, rfl⟩
 replace h := hk44
 refine splitB.mk (fun hb46 => ?_) (fun hb46 => ?_)
 replace h := T_var hb46 h
 refine .direct ?_
 refine ⟨rfl, ?_⟩
 refine ⟨rfl, _, rfl, ?_⟩
 obtain rfl := Option.some.inj h
 exact ⟨[], .int .i64 (W64 (0 - a0.fB)), [], by decide, (show 0 ≤ 0 by decide), .int_eq rfl, trivial, rfl, rfl⟩
 replace h := F_var hb46 h
 refine .direct ?_
 refine splitB.mk (fun hb47 => ?_) (fun hb47 => ?_)
 replace h := T_beq hb47 h
 refine .direct ?_
 refine ⟨rfl, ?_⟩
 refine ⟨rfl, _, rfl, ?_⟩
 obtain rfl := Option.some.inj h
 exact ⟨[], .int .i64 (W64 ((W64 (0 - a0.fB)) - 1)), [], by decide, (show 0 ≤ 0 by decide), .int_eq rfl, trivial, rfl, rfl⟩
 replace h := F_beq hb47 h
 refine .direct ?_
 refine splitB.mk (fun hb48 => ?_) (fun hb48 => ?_)
 replace h := T_beq hb48 h
 refine .direct ?_
 refine ⟨rfl, ?_⟩
 refine ⟨rfl, _, rfl, ?_⟩
 obtain rfl := Option.some.inj h
 exact ⟨[], .int .i64 (W64 (1 + a0.fB)), [], by decide, (show 0 ≤ 0 by decide), .int_eq rfl, trivial, rfl, rfl⟩
 replace h := F_beq hb48 h
 refine .direct ?_
 refine splitB.mk (fun hb49 => ?_) (fun hb49 => ?_)
 replace h := T_beq hb49 h
 refine .direct ?_
 obtain rfl := Option.some.inj h
 exact ⟨[], .int .i64 (-2), [], by decide, (show 0 ≤ 0 by decide), .int_eq rfl, trivial, rfl, rfl⟩
 replace h := F_beq hb49 h
 refine .direct ?_
 obtain rfl := Option.some.inj h
 exact ⟨[], .int .i64 0, [], by decide, (show 0 ≤ 0 by decide), .int_eq rfl, trivial, rfl, rfl⟩
def m_s_TargetChange (a0 : Int) : Option (Int) :=
 (if a0 = 28 then
 some (-1)
 else
 (if a0 = 44 then
 some 1
 else
 some 0))
theorem ok_s_TargetChange {a0 : Int} {r : Int} (h : m_s_TargetChange a0 = some r) : ACall Try.prog 64 [.int .i64 a0] [] (fun res h => res = .int .i64 r ∧ h = []) := by
 refine ACall.of_vc tabT_ok mixed Try.func64 rfl (by kernel_rfl) _ _ _ rfl (by kernel_rfl) ?_
 unfold m_s_TargetChange at h
 refine .direct ?_
 refine .direct ?_
 refine .direct ?_
 refine .direct ?_
 refine splitB.mk (fun hb1 => ?_) (fun hb1 => ?_)
 replace h := T_beq hb1 h
 refine .direct ?_
 obtain rfl := Option.some.inj h
 exact ⟨[], .int .i64 (-1), [], by decide, (show 0 ≤ 0 by decide), .int_eq rfl, trivial, rfl, rfl⟩
 replace h := F_beq hb1 h
 refine .direct ?_
 refine splitB.mk (fun hb2 => ?_) (fun hb2 => ?_)
 replace h := T_beq hb2 h
 refine .direct ?_
 obtain rfl := Option.some.inj h
 exact ⟨[], .int .i64 1, [], by decide, (show 0 ≤ 0 by decide), .int_eq rfl, trivial, rfl, rfl⟩
 replace h := F_beq hb2 h
 refine .direct ?_
 obtain rfl := Option.some.inj h
 exact ⟨[], .int .i64 0, [], by decide, (show 0 ≤ 0 by decide), .int_eq rfl, trivial, rfl, rfl⟩
def m_s_l25Slot (a0 : Int) : Option (Bool) :=
 (if a0 = 5 then
 some true
 else
 (if a0 = 6 then
 some true
 else
 (if a0 = 18 then
 some true
 else
 (if a0 = 21 then
 some true
 else
 (if a0 = 24 then
 some true
 else
 (if a0 = 26 then
 some true
 else
 (if a0 = 38 then
 some true
 else
 some false)))))))
theorem ok_s_l25Slot {a0 : Int} {r : Bool} (h : m_s_l25Slot a0 = some r) : ACall Try.prog 87 [.int .i64 a0] [] (fun res h => res = .bool r ∧ h = []) := by
 refine ACall.of_vc tabT_ok mixed Try.func87 rfl (by kernel_rfl) _ _ _ rfl (by kernel_rfl) ?_
 unfold m_s_l25Slot at h
 refine .direct ?_
 refine .direct ?_
 refine .direct ?_
 refine .direct ?_
 refine .direct ?_
 refine splitB.mk (fun hb1 => ?_) (fun hb1 => ?_)
 replace h := T_beq hb1 h
 refine splitB_kt hb1 ?_
 refine .direct ?_
 obtain rfl := Option.some.inj h
 exact ⟨[], .bool true, [], by decide, (show 0 ≤ 0 by decide), .bool_eq rfl, trivial, rfl, rfl⟩
 replace h := F_beq hb1 h
 refine .direct ?_
 refine splitB.mk (fun hb2 => ?_) (fun hb2 => ?_)
 replace h := T_beq hb2 h
 refine splitB_kt hb2 ?_
 refine .direct ?_
 obtain rfl := Option.some.inj h
 exact ⟨[], .bool true, [], by decide, (show 0 ≤ 0 by decide), .bool_eq rfl, trivial, rfl, rfl⟩
 replace h := F_beq hb2 h
 refine .direct ?_
 refine splitB.mk (fun hb3 => ?_) (fun hb3 => ?_)
 replace h := T_beq hb3 h
 refine splitB_kt hb3 ?_
 refine .direct ?_
 obtain rfl := Option.some.inj h
 exact ⟨[], .bool true, [], by decide, (show 0 ≤ 0 by decide), .bool_eq rfl, trivial, rfl, rfl⟩
 replace h := F_beq hb3 h
 refine .direct ?_
 refine splitB.mk (fun hb4 => ?_) (fun hb4 => ?_)
 replace h := T_beq hb4 h
 refine splitB_kt hb4 ?_
 refine .direct ?_
 obtain rfl := Option.some.inj h
 exact ⟨[], .bool true, [], by decide, (show 0 ≤ 0 by decide), .bool_eq rfl, trivial, rfl, rfl⟩
 replace h := F_beq hb4 h
 refine .direct ?_
 refine splitB.mk (fun hb5 => ?_) (fun hb5 => ?_)
 replace h := T_beq hb5 h
 refine splitB_kt hb5 ?_
 refine .direct ?_
 obtain rfl := Option.some.inj h
 exact ⟨[], .bool true, [], by decide, (show 0 ≤ 0 by decide), .bool_eq rfl, trivial, rfl, rfl⟩
 replace h := F_beq hb5 h
 refine .direct ?_
 refine splitB.mk (fun hb6 => ?_) (fun hb6 => ?_)
 replace h := T_beq hb6 h
 refine splitB_kt hb6 ?_
 refine .direct ?_
 obtain rfl := Option.some.inj h
 exact ⟨[], .bool true, [], by decide, (show 0 ≤ 0 by decide), .bool_eq rfl, trivial, rfl, rfl⟩
 replace h := F_beq hb6 h
 refine splitB.mk (fun hb7 => ?_) (fun hb7 => ?_)
 replace h := T_beq hb7 h
 refine .direct ?_
 obtain rfl := Option.some.inj h
 exact ⟨[], .bool true, [], by decide, (show 0 ≤ 0 by decide), .bool_eq rfl, trivial, rfl, rfl⟩
 replace h := F_beq hb7 h
 refine .direct ?_
 obtain rfl := Option.some.inj h
 exact ⟨[], .bool false, [], by decide, (show 0 ≤ 0 by decide), .bool_eq rfl, trivial, rfl, rfl⟩
def m_s_l25Text (a0 : Int) : Option (Int) :=
 (
 (if a0 = 3 then
 some (a0 == 3)
 else
 (if a0 = 31 then
 some (a0 == 31)
 else
 (if a0 = 55 then
 some (a0 == 55)
 else
 (if a0 = 56 then
 some (a0 == 56)
 else
 (if a0 = 35 then
 some (a0 == 35)
 else
 some (a0 == 36))))))
 : Option (Bool)) >>= fun b1 =>
 (if b1 = true then
 some 1
 else
 (if a0 = 7 then
 some 2
 else
 (if a0 = 8 then
 some 2
 else
 (if a0 = 17 then
 some 2
 else
 (if a0 = 19 then
 some 2
 else
 (if a0 = 20 then
 some 2
 else
 (if a0 = 22 then
 some 2
 else
 (if a0 = 23 then
 some 2
 else
 (if a0 = 25 then
 some 2
 else
 (if a0 = 26 then
 some 2
 else
 (if a0 = 32 then
 some 2
 else
 (if a0 = 34 then
 some 2
 else
 (if a0 = 39 then
 some 2
 else
 (if a0 = 44 then
 some 2
 else
 some 0))))))))))))))
theorem ok_s_l25Text {a0 : Int} {r : Int} (h : m_s_l25Text a0 = some r) : ACall Try.prog 86 [.int .i64 a0] [] (fun res h => res = .int .i64 r ∧ h = []) := by
 refine ACall.of_vc tabT_ok mixed Try.func86 rfl (by kernel_rfl) _ _ _ rfl (by kernel_rfl) ?_
 unfold m_s_l25Text at h
 refine .direct ?_
 refine .direct ?_
 refine .direct ?_
 obtain ⟨o2, ho3, hk4⟩ := bind_some h
 replace h := ho3
 refine .cut (fun σ η => ∃ b1, b1 = o2 ∧ σ = [(3, .int .i64 a0), (4, .bool b1)] ∧ η = []) ?_ ?_
 refine .direct ?_
 refine splitB.mk (fun hb5 => ?_) (fun hb5 => ?_)
 replace h := T_beq hb5 h
 exact ⟨[(3, .int .i64 a0), (4, .bool (a0 == 3))], [], ⟨[], by decide, (show 0 ≤ 0 by decide), ⟨.int_eq rfl, .bool_eq rfl, trivial⟩, trivial⟩, (a0 == 3), Option.some.inj h, rfl, rfl⟩
 replace h := F_beq hb5 h
 refine .direct ?_
 refine splitB.mk (fun hb6 => ?_) (fun hb6 => ?_)
 replace h := T_beq hb6 h
 exact ⟨[(3, .int .i64 a0), (4, .bool (a0 == 31))], [], ⟨[], by decide, (show 0 ≤ 0 by decide), ⟨.int_eq rfl, .bool_eq rfl, trivial⟩, trivial⟩, (a0 == 31), Option.some.inj h, rfl, rfl⟩
 replace h := F_beq hb6 h
 refine .direct ?_
 refine splitB.mk (fun hb7 => ?_) (fun hb7 => ?_)
 replace h := T_beq hb7 h
 exact ⟨[(3, .int .i64 a0), (4, .bool (a0 == 55))], [], ⟨[], by decide, (show 0 ≤ 0 by decide), ⟨.int_eq rfl, .bool_eq rfl, trivial⟩, trivial⟩, (a0 == 55), Option.some.inj h, rfl, rfl⟩
 replace h := F_beq hb7 h
 refine .direct ?_
 refine splitB.mk (fun hb8 => ?_) (fun hb8 => ?_)
 replace h := T_beq hb8 h
 exact ⟨[(3, .int .i64 a0), (4, .bool (a0 == 56))], [], ⟨[], by decide, (show 0 ≤ 0 by decide), ⟨.int_eq rfl, .bool_eq rfl, trivial⟩, trivial⟩, (a0 == 56), Option.some.inj h, rfl, rfl⟩
 replace h := F_beq hb8 h
 refine .direct ?_
 refine splitB.mk (fun hb9 => ?_) (fun hb9 => ?_)
 replace h := T_beq hb9 h
 exact ⟨[(3, .int .i64 a0), (4, .bool (a0 == 35))], [], ⟨[], by decide, (show 0 ≤ 0 by decide), ⟨.int_eq rfl, .bool_eq rfl, trivial⟩, trivial⟩, (a0 == 35), Option.some.inj h, rfl, rfl⟩
 replace h := F_beq hb9 h
 exact ⟨[(3, .int .i64 a0), (4, .bool (a0 == 36))], [], ⟨[], by decide, (show 0 ≤ 0 by decide), ⟨.int_eq rfl, .bool_eq rfl, trivial⟩, trivial⟩, (a0 == 36), Option.some.inj h, rfl, rfl⟩
 rintro _ _ ⟨b1, rfl, rfl, rfl⟩
 replace h := hk4
 refine splitB.mk (fun hb10 => ?_) (fun hb10 => ?_)
 replace h := T_var hb10 h
 refine .direct ?_
 obtain rfl := Option.some.inj h
 exact ⟨[], .int .i64 1, [], by decide, (show 0 ≤ 0 by decide), .int_eq rfl, trivial, rfl, rfl⟩
 replace h := F_var hb10 h
 refine .direct ?_
 refine .direct ?_
 refine splitB.mk (fun hb11 => ?_) (fun hb11 => ?_)
 replace h := T_beq hb11 h
 refine splitB_kt hb11 ?_
 refine .direct ?_
 obtain rfl := Option.some.inj h
 exact ⟨[], .int .i64 2, [], by decide, (show 0 ≤ 0 by decide), .int_eq rfl, trivial, rfl, rfl⟩
 replace h := F_beq hb11 h
 refine .direct ?_
 refine splitB.mk (fun hb12 => ?_) (fun hb12 => ?_)
 replace h := T_beq hb12 h
 refine splitB_kt hb12 ?_
 refine .direct ?_
 obtain rfl := Option.some.inj h
 exact ⟨[], .int .i64 2, [], by decide, (show 0 ≤ 0 by decide), .int_eq rfl, trivial, rfl, rfl⟩
 replace h := F_beq hb12 h
 refine .direct ?_
 refine splitB.mk (fun hb13 => ?_) (fun hb13 => ?_)
 replace h := T_beq hb13 h
 refine splitB_kt hb13 ?_
 refine .direct ?_
 obtain rfl := Option.some.inj h
 exact ⟨[], .int .i64 2, [], by decide, (show 0 ≤ 0 by decide), .int_eq rfl, trivial, rfl, rfl⟩
 replace h := F_beq hb13 h
 refine .direct ?_
 refine splitB.mk (fun hb14 => ?_) (fun hb14 => ?_)
 replace h := T_beq hb14 h
 refine splitB_kt hb14 ?_
 refine .direct ?_
 obtain rfl := Option.some.inj h
 exact ⟨[], .int .i64 2, [], by decide, (show 0 ≤ 0 by decide), .int_eq rfl, trivial, rfl, rfl⟩
 replace h := F_beq hb14 h
 refine .direct ?_
 refine splitB.mk (fun hb15 => ?_) (fun hb15 => ?_)
 replace h := T_beq hb15 h
 refine splitB_kt hb15 ?_
 refine .direct ?_
 obtain rfl := Option.some.inj h
 exact ⟨[], .int .i64 2, [], by decide, (show 0 ≤ 0 by decide), .int_eq rfl, trivial, rfl, rfl⟩
 replace h := F_beq hb15 h
 refine .direct ?_
 refine splitB.mk (fun hb16 => ?_) (fun hb16 => ?_)
 replace h := T_beq hb16 h
 refine splitB_kt hb16 ?_
 refine .direct ?_
 obtain rfl := Option.some.inj h
 exact ⟨[], .int .i64 2, [], by decide, (show 0 ≤ 0 by decide), .int_eq rfl, trivial, rfl, rfl⟩
 replace h := F_beq hb16 h
 refine .direct ?_
 refine splitB.mk (fun hb17 => ?_) (fun hb17 => ?_)
 replace h := T_beq hb17 h
 refine splitB_kt hb17 ?_
 refine .direct ?_
 obtain rfl := Option.some.inj h
 exact ⟨[], .int .i64 2, [], by decide, (show 0 ≤ 0 by decide), .int_eq rfl, trivial, rfl, rfl⟩
 replace h := F_beq hb17 h
 refine .direct ?_
 refine splitB.mk (fun hb18 => ?_) (fun hb18 => ?_)
 replace h := T_beq hb18 h
 refine splitB_kt hb18 ?_
 refine .direct ?_
 obtain rfl := Option.some.inj h
 exact ⟨[], .int .i64 2, [], by decide, (show 0 ≤ 0 by decide), .int_eq rfl, trivial, rfl, rfl⟩
 replace h := F_beq hb18 h
 refine .direct ?_
 refine splitB.mk (fun hb19 => ?_) (fun hb19 => ?_)
 replace h := T_beq hb19 h
 refine splitB_kt hb19 ?_
 refine .direct ?_
 obtain rfl := Option.some.inj h
 exact ⟨[], .int .i64 2, [], by decide, (show 0 ≤ 0 by decide), .int_eq rfl, trivial, rfl, rfl⟩
 replace h := F_beq hb19 h
 refine .direct ?_
 refine splitB.mk (fun hb20 => ?_) (fun hb20 => ?_)
 replace h := T_beq hb20 h
 refine splitB_kt hb20 ?_
 refine .direct ?_
 obtain rfl := Option.some.inj h
 exact ⟨[], .int .i64 2, [], by decide, (show 0 ≤ 0 by decide), .int_eq rfl, trivial, rfl, rfl⟩
 replace h := F_beq hb20 h
 refine .direct ?_
 refine splitB.mk (fun hb21 => ?_) (fun hb21 => ?_)
 replace h := T_beq hb21 h
 refine splitB_kt hb21 ?_
 refine .direct ?_
 obtain rfl := Option.some.inj h
 exact ⟨[], .int .i64 2, [], by decide, (show 0 ≤ 0 by decide), .int_eq rfl, trivial, rfl, rfl⟩
 replace h := F_beq hb21 h
 refine .direct ?_
 refine splitB.mk (fun hb22 => ?_) (fun hb22 => ?_)
 replace h := T_beq hb22 h
 refine splitB_kt hb22 ?_
 refine .direct ?_
 obtain rfl := Option.some.inj h
 exact ⟨[], .int .i64 2, [], by decide, (show 0 ≤ 0 by decide), .int_eq rfl, trivial, rfl, rfl⟩
 replace h := F_beq hb22 h
 refine splitB.mk (fun hb23 => ?_) (fun hb23 => ?_)
 replace h := T_beq hb23 h
 refine .direct ?_
 obtain rfl := Option.some.inj h
 exact ⟨[], .int .i64 2, [], by decide, (show 0 ≤ 0 by decide), .int_eq rfl, trivial, rfl, rfl⟩
 replace h := F_beq hb23 h
 refine .direct ?_
 obtain rfl := Option.some.inj h
 exact ⟨[], .int .i64 0, [], by decide, (show 0 ≤ 0 by decide), .int_eq rfl, trivial, rfl, rfl⟩
def m_s_IsIns (a0 : TIns) (a1 : Int) (a2 : Int) : Option (Bool) :=
 (
 (if a0.fS = ([] : Str) then
 some true
 else
 m_s_l25Text a0.fOp >>= fun v6 =>
 (if v6 = 1 then
 some true
 else
 m_s_l25Text a0.fOp >>= fun v9 =>
 some (v9 == 2)))
 : Option (Bool)) >>= fun b1 =>
 (
 m_s_l25Text a0.fOp >>= fun v15 =>
 (if v15 = 2 then
 m_s_l15Name a0.fS >>= fun v18 =>
 (if v18 = true then
 some b1
 else
 some false)
 else
 some b1)
 : Option (Bool)) >>= fun b11 =>
 (
 (if a0.fOp = 2 then
 m_s_l1In a0.fA 0 1000000000 >>= fun v29 =>
 some (v29, (a0.fB == 0), b11)
 else
 (
 (if a0.fOp = 4 then
 some (a0.fOp == 4)
 else
 some (a0.fOp == 11))
 : Option (Bool)) >>= fun b31 =>
 (if b31 = true then
 m_s_l1In a0.fA 0 2 >>= fun v37 =>
 some (v37, (a0.fB == 0), b11)
 else
 (if a0.fOp = 12 then
 m_s_l1In a0.fA 1 15 >>= fun v40 =>
 some (v40, (a0.fB == 0), b11)
 else
 (if a0.fOp = 3 then
 some ((a0.fA == 0), (a0.fB == 0), (decide ((a0.fS.length : Int) ≤ 400)))
 else
 (if a0.fOp = 15 then
 m_s_l1In a0.fB 0 1 >>= fun v44 =>
 some ((a0.fA == 0), v44, b11)
 else
 (
 (if a0.fOp = 18 then
 some (a0.fOp == 18)
 else
 (if a0.fOp = 19 then
 some (a0.fOp == 19)
 else
 some (a0.fOp == 20)))
 : Option (Bool)) >>= fun b46 =>
 (if b46 = true then
 m_s_l1In a0.fB 0 81 >>= fun v53 =>
 some ((a0.fA == 0), v53, b11)
 else
 (
 (if a0.fOp = 21 then
 some (a0.fOp == 21)
 else
 (if a0.fOp = 22 then
 some (a0.fOp == 22)
 else
 some (a0.fOp == 23)))
 : Option (Bool)) >>= fun b55 =>
 (if b55 = true then
 m_s_l1In a0.fB 0 40 >>= fun v62 =>
 some ((a0.fA == 0), v62, b11)
 else
 (if a0.fOp = 24 then
 (if a0.fB ≥ 0 then
 some ((a0.fA == 0), (decide (a0.fB < a1)), b11)
 else
 some ((a0.fA == 0), false, b11))
 else
 (if a0.fOp = 49 then
 m_s_l1In a0.fB 0 100 >>= fun v67 =>
 some ((a0.fA == 0), v67, b11)
 else
 (if a0.fOp = 52 then
 m_s_l1In a0.fB 0 1 >>= fun v70 =>
 some ((a0.fA == 0), v70, b11)
 else
 some ((a0.fA == 0), (a0.fB == 0), b11)))))))))))
 : Option (Bool × Bool × Bool)) >>= fun (b22, b23, b24) =>
 (
 m_s_l25Slot a0.fOp >>= fun v76 =>
 (if v76 = true then
 (if a0.fA ≥ 0 then
 some (decide (a0.fA < a1))
 else
 some false)
 else
 some b22)
 : Option (Bool)) >>= fun b72 =>
 (
 m_s_HasTarget a0.fOp >>= fun v84 =>
 (if v84 = true then
 (if a0.fA ≥ 0 then
 some (decide (a0.fA < a2))
 else
 some false)
 else
 some b72)
 : Option (Bool)) >>= fun b80 =>
 (
 (if a0.fOp = 25 then
 m_s_l15Name a0.fT >>= fun v93 =>
 some v93
 else
 some (a0.fT == ([] : Str)))
 : Option (Bool)) >>= fun b88 =>
 m_s_l1In a0.fOp 1 56 >>= fun v95 =>
 (if v95 = true then
 (if b80 = true then
 (if b23 = true then
 (if b24 = true then
 some b88
 else
 some false)
 else
 some false)
 else
 some false)
 else
 some false)
theorem ok_s_IsIns {a0 : TIns} {a1 : Int} {a2 : Int} {r : Bool} (h : m_s_IsIns a0 a1 a2 = some r) : ACall Try.prog 59 [.agg [.int .i64 a0.fOp, .int .i64 a0.fA, .int .i64 a0.fB, .str a0.fS, .str a0.fT], .int .i64 a1, .int .i64 a2] [] (fun res h => res = .bool r ∧ h = []) := by
 refine ACall.of_vc tabT_ok mixed Try.func59 rfl (by kernel_rfl) _ _ _ rfl (by kernel_rfl) ?_
 unfold m_s_IsIns at h
 refine .direct ?_
 refine .direct ?_
 refine ⟨rfl, ?_⟩
 refine ⟨rfl, _, rfl, ?_⟩
 refine .direct ?_
 refine ⟨rfl, ?_⟩
 refine ⟨rfl, _, rfl, ?_⟩
 obtain ⟨o2, ho3, hk4⟩ := bind_some h
 replace h := ho3
 refine .cut (fun σ η => ∃ b1, b1 = o2 ∧ σ = [(1, .int .i64 a1), (2, .int .i64 a2), (3, .optr 0 0 0 0), (7, .bool (a0.fA == 0)), (8, .bool (a0.fB == 0)), (9, .bool b1)] ∧ η = [.row 0 5 1 53 (fun _ => [.int .i64 a0.fOp, .int .i64 a0.fA, .int .i64 a0.fB, .str a0.fS, .str a0.fT])]) ?_ ?_
 refine ⟨rfl, ?_⟩
 refine ⟨rfl, _, rfl, ?_⟩
 refine splitB.mk (fun hb5 => ?_) (fun hb5 => ?_)
 replace h := T_beq hb5 h
 refine splitB_t ?_
 refine splitB_t ?_
 refine splitB_t ?_
 refine splitB_t ?_
 refine splitB_t ?_
 refine splitB_t ?_
 refine splitB_t ?_
 refine splitB_t ?_
 refine splitB_t ?_
 exact ⟨[(1, .int .i64 a1), (2, .int .i64 a2), (3, .optr 0 0 0 0), (7, .bool (a0.fA == 0)), (8, .bool (a0.fB == 0)), (9, .bool true)], [.row 0 5 1 53 (fun _ => [.int .i64 a0.fOp, .int .i64 a0.fA, .int .i64 a0.fB, .str a0.fS, .str a0.fT])], ⟨[0], by decide, (show 0 ≤ 1 by decide), ⟨.int_eq rfl, .int_eq rfl, .optr_eq rfl ⟨_, _, _, _, rfl⟩ ⟨_, _, _, _, rfl, Nat.zero_lt_one⟩ rfl rfl, .bool_eq rfl, .bool_eq rfl, .bool_eq rfl, trivial⟩, ⟨⟨fun h0 => absurd (show 0 < 0 from h0) (by decide), rfl, .inl rfl, rfl, fun _ _ => ⟨.int_eq rfl, .int_eq rfl, .int_eq rfl, .str_eq rfl, .str_eq rfl, trivial⟩⟩, trivial⟩⟩, true, Option.some.inj h, rfl, rfl⟩
 replace h := F_beq hb5 h
 refine ⟨rfl, ?_⟩
 refine splitB_f ?_
 refine ⟨rfl, _, rfl, ?_⟩
 refine splitB_f ?_
 obtain ⟨v6, hv7, h⟩ := bind_some h
 refine ⟨_, ACall.pure0 (ok_s_l25Text hv7) _ rfl (fun _ => rfl), ?_⟩
 rintro _ _ ⟨rfl, rfl⟩
 refine splitB_f ?_
 refine splitB_f ?_
 refine splitB.mk (fun hb8 => ?_) (fun hb8 => ?_)
 replace h := T_beq hb8 h
 refine splitB_t ?_
 refine splitB_t ?_
 refine splitB_t ?_
 refine splitB_t ?_
 exact ⟨[(1, .int .i64 a1), (2, .int .i64 a2), (3, .optr 0 0 0 0), (7, .bool (a0.fA == 0)), (8, .bool (a0.fB == 0)), (9, .bool true)], [.row 0 5 1 53 (fun _ => [.int .i64 a0.fOp, .int .i64 a0.fA, .int .i64 a0.fB, .str a0.fS, .str a0.fT])], ⟨[0], by decide, (show 0 ≤ 1 by decide), ⟨.int_eq rfl, .int_eq rfl, .optr_eq rfl ⟨_, _, _, _, rfl⟩ ⟨_, _, _, _, rfl, Nat.zero_lt_one⟩ rfl rfl, .bool_eq rfl, .bool_eq rfl, .bool_eq rfl, trivial⟩, ⟨⟨fun h0 => absurd (show 0 < 0 from h0) (by decide), rfl, .inl rfl, rfl, fun _ _ => ⟨.int_eq rfl, .int_eq rfl, .int_eq rfl, .str_eq rfl, .str_eq rfl, trivial⟩⟩, trivial⟩⟩, true, Option.some.inj h, rfl, rfl⟩
 replace h := F_beq hb8 h
 refine ⟨rfl, ?_⟩
 refine splitB_f ?_
 refine ⟨rfl, _, rfl, ?_⟩
 refine splitB_f ?_
 obtain ⟨v9, hv10, h⟩ := bind_some h
 refine ⟨_, ACall.pure0 (ok_s_l25Text hv10) _ rfl (fun _ => rfl), ?_⟩
 rintro _ _ ⟨rfl, rfl⟩
 refine splitB_f ?_
 refine splitB_f ?_
 exact ⟨[(1, .int .i64 a1), (2, .int .i64 a2), (3, .optr 0 0 0 0), (7, .bool (a0.fA == 0)), (8, .bool (a0.fB == 0)), (9, .bool (v9 == 2))], [.row 0 5 1 53 (fun _ => [.int .i64 a0.fOp, .int .i64 a0.fA, .int .i64 a0.fB, .str a0.fS, .str a0.fT])], ⟨[0], by decide, (show 0 ≤ 1 by decide), ⟨.int_eq rfl, .int_eq rfl, .optr_eq rfl ⟨_, _, _, _, rfl⟩ ⟨_, _, _, _, rfl, Nat.zero_lt_one⟩ rfl rfl, .bool_eq rfl, .bool_eq rfl, .bool_eq rfl, trivial⟩, ⟨⟨fun h0 => absurd (show 0 < 0 from h0) (by decide), rfl, .inl rfl, rfl, fun _ _ => ⟨.int_eq rfl, .int_eq rfl, .int_eq rfl, .str_eq rfl, .str_eq rfl, trivial⟩⟩, trivial⟩⟩, (v9 == 2), Option.some.inj h, rfl, rfl⟩
 rintro _ _ ⟨b1, rfl, rfl, rfl⟩
 replace h := hk4
 obtain ⟨o12, ho13, hk14⟩ := bind_some h
 replace h := ho13
 refine .cut (fun σ η => ∃ b11, b11 = o12 ∧ σ = [(1, .int .i64 a1), (2, .int .i64 a2), (3, .optr 0 0 0 0), (7, .bool (a0.fA == 0)), (8, .bool (a0.fB == 0)), (9, .bool b11)] ∧ η = [.row 0 5 1 53 (fun _ => [.int .i64 a0.fOp, .int .i64 a0.fA, .int .i64 a0.fB, .str a0.fS, .str a0.fT])]) ?_ ?_
 refine .direct ?_
 refine ⟨rfl, ?_⟩
 refine ⟨rfl, _, rfl, ?_⟩
 obtain ⟨v15, hv16, h⟩ := bind_some h
 refine ⟨_, ACall.pure0 (ok_s_l25Text hv16) _ rfl (fun _ => rfl), ?_⟩
 rintro _ _ ⟨rfl, rfl⟩
 refine splitB.mk (fun hb17 => ?_) (fun hb17 => ?_)
 replace h := T_beq hb17 h
 refine ⟨rfl, ?_⟩
 refine splitB_t ?_
 refine ⟨rfl, _, rfl, ?_⟩
 refine splitB_t ?_
 obtain ⟨v18, hv19, h⟩ := bind_some h
 refine ⟨_, ACall.pure0 (ok_s_l15Name hv19) _ rfl (fun _ => rfl), ?_⟩
 rintro _ _ ⟨rfl, rfl⟩
 refine splitB_t ?_
 refine splitB_t ?_
 refine splitB.mk (fun hb20 => ?_) (fun hb20 => ?_)
 have hb21 := not_F hb20
 replace h := F_var hb21 h
 exact ⟨[(1, .int .i64 a1), (2, .int .i64 a2), (3, .optr 0 0 0 0), (7, .bool (a0.fA == 0)), (8, .bool (a0.fB == 0)), (9, .bool false)], [.row 0 5 1 53 (fun _ => [.int .i64 a0.fOp, .int .i64 a0.fA, .int .i64 a0.fB, .str a0.fS, .str a0.fT])], ⟨[0], by decide, (show 0 ≤ 1 by decide), ⟨.int_eq rfl, .int_eq rfl, .optr_eq rfl ⟨_, _, _, _, rfl⟩ ⟨_, _, _, _, rfl, Nat.zero_lt_one⟩ rfl rfl, .bool_eq rfl, .bool_eq rfl, .bool_eq rfl, trivial⟩, ⟨⟨fun h0 => absurd (show 0 < 0 from h0) (by decide), rfl, .inl rfl, rfl, fun _ _ => ⟨.int_eq rfl, .int_eq rfl, .int_eq rfl, .str_eq rfl, .str_eq rfl, trivial⟩⟩, trivial⟩⟩, false, Option.some.inj h, rfl, rfl⟩
 have hb21 := not_T hb20
 replace h := T_var hb21 h
 exact ⟨[(1, .int .i64 a1), (2, .int .i64 a2), (3, .optr 0 0 0 0), (7, .bool (a0.fA == 0)), (8, .bool (a0.fB == 0)), (9, .bool b1)], [.row 0 5 1 53 (fun _ => [.int .i64 a0.fOp, .int .i64 a0.fA, .int .i64 a0.fB, .str a0.fS, .str a0.fT])], ⟨[0], by decide, (show 0 ≤ 1 by decide), ⟨.int_eq rfl, .int_eq rfl, .optr_eq rfl ⟨_, _, _, _, rfl⟩ ⟨_, _, _, _, rfl, Nat.zero_lt_one⟩ rfl rfl, .bool_eq rfl, .bool_eq rfl, .bool_eq rfl, trivial⟩, ⟨⟨fun h0 => absurd (show 0 < 0 from h0) (by decide), rfl, .inl rfl, rfl, fun _ _ => ⟨.int_eq rfl, .int_eq rfl, .int_eq rfl, .str_eq rfl, .str_eq rfl, trivial⟩⟩, trivial⟩⟩, b1, Option.some.inj h, rfl, rfl⟩
 replace h := F_beq hb17 h
 refine splitB_f ?_
 refine splitB_f ?_
 refine splitB_f ?_
 refine splitB_f ?_
 refine splitB_f ?_
 exact ⟨[(1, .int .i64 a1), (2, .int .i64 a2), (3, .optr 0 0 0 0), (7, .bool (a0.fA == 0)), (8, .bool (a0.fB == 0)), (9, .bool b1)], [.row 0 5 1 53 (fun _ => [.int .i64 a0.fOp, .int .i64 a0.fA, .int .i64 a0.fB, .str a0.fS, .str a0.fT])], ⟨[0], by decide, (show 0 ≤ 1 by decide), ⟨.int_eq rfl, .int_eq rfl, .optr_eq rfl ⟨_, _, _, _, rfl⟩ ⟨_, _, _, _, rfl, Nat.zero_lt_one⟩ rfl rfl, .bool_eq rfl, .bool_eq rfl, .bool_eq rfl, trivial⟩, ⟨⟨fun h0 => absurd (show 0 < 0 from h0) (by decide), rfl, .inl rfl, rfl, fun _ _ => ⟨.int_eq rfl, .int_eq rfl, .int_eq rfl, .str_eq rfl, .str_eq rfl, trivial⟩⟩, trivial⟩⟩, b1, Option.some.inj h, rfl, rfl⟩
 rintro _ _ ⟨b11, rfl, rfl, rfl⟩
 replace h := hk14
 obtain ⟨o25, ho26, hk27⟩ := bind_some h
 replace h := ho26
 refine .cut (fun σ η => ∃ b22, ∃ b23, ∃ b24, (b22, b23, b24) = o25 ∧ σ = [(1, .int .i64 a1), (2, .int .i64 a2), (3, .optr 0 0 0 0), (7, .bool b22), (8, .bool b23), (9, .bool b24)] ∧ η = [.row 0 5 1 53 (fun _ => [.int .i64 a0.fOp, .int .i64 a0.fA, .int .i64 a0.fB, .str a0.fS, .str a0.fT])]) ?_ ?_
 refine .direct ?_
 refine ⟨rfl, ?_⟩
 refine ⟨rfl, _, rfl, ?_⟩
 refine .direct ?_
 refine splitB.mk (fun hb28 => ?_) (fun hb28 => ?_)
 replace h := T_beq hb28 h
 refine ⟨rfl, ?_⟩
 refine ⟨rfl, _, rfl, ?_⟩
 obtain ⟨v29, hv30, h⟩ := bind_some h
 refine ⟨_, ACall.pure0 (ok_s_l1In hv30) _ rfl (fun _ => rfl), ?_⟩
 rintro _ _ ⟨rfl, rfl⟩
 exact ⟨[(1, .int .i64 a1), (2, .int .i64 a2), (3, .optr 0 0 0 0), (7, .bool v29), (8, .bool (a0.fB == 0)), (9, .bool b11)], [.row 0 5 1 53 (fun _ => [.int .i64 a0.fOp, .int .i64 a0.fA, .int .i64 a0.fB, .str a0.fS, .str a0.fT])], ⟨[0], by decide, (show 0 ≤ 1 by decide), ⟨.int_eq rfl, .int_eq rfl, .optr_eq rfl ⟨_, _, _, _, rfl⟩ ⟨_, _, _, _, rfl, Nat.zero_lt_one⟩ rfl rfl, .bool_eq rfl, .bool_eq rfl, .bool_eq rfl, trivial⟩, ⟨⟨fun h0 => absurd (show 0 < 0 from h0) (by decide), rfl, .inl rfl, rfl, fun _ _ => ⟨.int_eq rfl, .int_eq rfl, .int_eq rfl, .str_eq rfl, .str_eq rfl, trivial⟩⟩, trivial⟩⟩, v29, (a0.fB == 0), b11, Option.some.inj h, rfl, rfl⟩
 replace h := F_beq hb28 h
 obtain ⟨o32, ho33, hk34⟩ := bind_some h
 replace h := ho33
 refine .cut (fun σ η => ∃ b31, b31 = o32 ∧ σ = [(1, .int .i64 a1), (2, .int .i64 a2), (3, .optr 0 0 0 0), (7, .bool (a0.fA == 0)), (8, .bool (a0.fB == 0)), (9, .bool b11), (43, .int .i64 a0.fOp), (49, .bool b31)] ∧ η = [.row 0 5 1 53 (fun _ => [.int .i64 a0.fOp, .int .i64 a0.fA, .int .i64 a0.fB, .str a0.fS, .str a0.fT])]) ?_ ?_
 refine .direct ?_
 refine splitB.mk (fun hb35 => ?_) (fun hb35 => ?_)
 replace h := T_beq hb35 h
 exact ⟨[(1, .int .i64 a1), (2, .int .i64 a2), (3, .optr 0 0 0 0), (7, .bool (a0.fA == 0)), (8, .bool (a0.fB == 0)), (9, .bool b11), (43, .int .i64 a0.fOp), (49, .bool (a0.fOp == 4))], [.row 0 5 1 53 (fun _ => [.int .i64 a0.fOp, .int .i64 a0.fA, .int .i64 a0.fB, .str a0.fS, .str a0.fT])], ⟨[0], by decide, (show 0 ≤ 1 by decide), ⟨.int_eq rfl, .int_eq rfl, .optr_eq rfl ⟨_, _, _, _, rfl⟩ ⟨_, _, _, _, rfl, Nat.zero_lt_one⟩ rfl rfl, .bool_eq rfl, .bool_eq rfl, .bool_eq rfl, .int_eq rfl, .bool_eq rfl, trivial⟩, ⟨⟨fun h0 => absurd (show 0 < 0 from h0) (by decide), rfl, .inl rfl, rfl, fun _ _ => ⟨.int_eq rfl, .int_eq rfl, .int_eq rfl, .str_eq rfl, .str_eq rfl, trivial⟩⟩, trivial⟩⟩, (a0.fOp == 4), Option.some.inj h, rfl, rfl⟩
 replace h := F_beq hb35 h
 exact ⟨[(1, .int .i64 a1), (2, .int .i64 a2), (3, .optr 0 0 0 0), (7, .bool (a0.fA == 0)), (8, .bool (a0.fB == 0)), (9, .bool b11), (43, .int .i64 a0.fOp), (49, .bool (a0.fOp == 11))], [.row 0 5 1 53 (fun _ => [.int .i64 a0.fOp, .int .i64 a0.fA, .int .i64 a0.fB, .str a0.fS, .str a0.fT])], ⟨[0], by decide, (show 0 ≤ 1 by decide), ⟨.int_eq rfl, .int_eq rfl, .optr_eq rfl ⟨_, _, _, _, rfl⟩ ⟨_, _, _, _, rfl, Nat.zero_lt_one⟩ rfl rfl, .bool_eq rfl, .bool_eq rfl, .bool_eq rfl, .int_eq rfl, .bool_eq rfl, trivial⟩, ⟨⟨fun h0 => absurd (show 0 < 0 from h0) (by decide), rfl, .inl rfl, rfl, fun _ _ => ⟨.int_eq rfl, .int_eq rfl, .int_eq rfl, .str_eq rfl, .str_eq rfl, trivial⟩⟩, trivial⟩⟩, (a0.fOp == 11), Option.some.inj h, rfl, rfl⟩
 rintro _ _ ⟨b31, rfl, rfl, rfl⟩
 replace h := hk34
 refine splitB.mk (fun hb36 => ?_) (fun hb36 => ?_)
 replace h := T_var hb36 h
 refine ⟨rfl, ?_⟩
 refine ⟨rfl, _, rfl, ?_⟩
 obtain ⟨v37, hv38, h⟩ := bind_some h
 refine ⟨_, ACall.pure0 (ok_s_l1In hv38) _ rfl (fun _ => rfl), ?_⟩
 rintro _ _ ⟨rfl, rfl⟩
 exact ⟨[(1, .int .i64 a1), (2, .int .i64 a2), (3, .optr 0 0 0 0), (7, .bool v37), (8, .bool (a0.fB == 0)), (9, .bool b11)], [.row 0 5 1 53 (fun _ => [.int .i64 a0.fOp, .int .i64 a0.fA, .int .i64 a0.fB, .str a0.fS, .str a0.fT])], ⟨[0], by decide, (show 0 ≤ 1 by decide), ⟨.int_eq rfl, .int_eq rfl, .optr_eq rfl ⟨_, _, _, _, rfl⟩ ⟨_, _, _, _, rfl, Nat.zero_lt_one⟩ rfl rfl, .bool_eq rfl, .bool_eq rfl, .bool_eq rfl, trivial⟩, ⟨⟨fun h0 => absurd (show 0 < 0 from h0) (by decide), rfl, .inl rfl, rfl, fun _ _ => ⟨.int_eq rfl, .int_eq rfl, .int_eq rfl, .str_eq rfl, .str_eq rfl, trivial⟩⟩, trivial⟩⟩, v37, (a0.fB == 0), b11, Option.some.inj h, rfl, rfl⟩
 replace h := F_var hb36 h
 refine .direct ?_
 refine splitB.mk (fun hb39 => ?_) (fun hb39 => ?_)
 replace h := T_beq hb39 h
 refine ⟨rfl, ?_⟩
 refine ⟨rfl, _, rfl, ?_⟩
 obtain ⟨v40, hv41, h⟩ := bind_some h
 refine ⟨_, ACall.pure0 (ok_s_l1In hv41) _ rfl (fun _ => rfl), ?_⟩
 rintro _ _ ⟨rfl, rfl⟩
 exact ⟨[(1, .int .i64 a1), (2, .int .i64 a2), (3, .optr 0 0 0 0), (7, .bool v40), (8, .bool (a0.fB == 0)), (9, .bool b11)], [.row 0 5 1 53 (fun _ => [.int .i64 a0.fOp, .int .i64 a0.fA, .int .i64 a0.fB, .str a0.fS, .str a0.fT])], ⟨[0], by decide, (show 0 ≤ 1 by decide), ⟨.int_eq rfl, .int_eq rfl, .optr_eq rfl ⟨_, _, _, _, rfl⟩ ⟨_, _, _, _, rfl, Nat.zero_lt_one⟩ rfl rfl, .bool_eq rfl, .bool_eq rfl, .bool_eq rfl, trivial⟩, ⟨⟨fun h0 => absurd (show 0 < 0 from h0) (by decide), rfl, .inl rfl, rfl, fun _ _ => ⟨.int_eq rfl, .int_eq rfl, .int_eq rfl, .str_eq rfl, .str_eq rfl, trivial⟩⟩, trivial⟩⟩, v40, (a0.fB == 0), b11, Option.some.inj h, rfl, rfl⟩
 replace h := F_beq hb39 h
 refine .direct ?_
 refine splitB.mk (fun hb42 => ?_) (fun hb42 => ?_)
 replace h := T_beq hb42 h
 refine ⟨rfl, ?_⟩
 refine ⟨rfl, _, rfl, ?_⟩
 exact ⟨[(1, .int .i64 a1), (2, .int .i64 a2), (3, .optr 0 0 0 0), (7, .bool (a0.fA == 0)), (8, .bool (a0.fB == 0)), (9, .bool (decide ((a0.fS.length : Int) ≤ 400)))], [.row 0 5 1 53 (fun _ => [.int .i64 a0.fOp, .int .i64 a0.fA, .int .i64 a0.fB, .str a0.fS, .str a0.fT])], ⟨[0], by decide, (show 0 ≤ 1 by decide), ⟨.int_eq rfl, .int_eq rfl, .optr_eq rfl ⟨_, _, _, _, rfl⟩ ⟨_, _, _, _, rfl, Nat.zero_lt_one⟩ rfl rfl, .bool_eq rfl, .bool_eq rfl, .bool_eq rfl, trivial⟩, ⟨⟨fun h0 => absurd (show 0 < 0 from h0) (by decide), rfl, .inl rfl, rfl, fun _ _ => ⟨.int_eq rfl, .int_eq rfl, .int_eq rfl, .str_eq rfl, .str_eq rfl, trivial⟩⟩, trivial⟩⟩, (a0.fA == 0), (a0.fB == 0), (decide ((a0.fS.length : Int) ≤ 400)), Option.some.inj h, rfl, rfl⟩
 replace h := F_beq hb42 h
 refine .direct ?_
 refine splitB.mk (fun hb43 => ?_) (fun hb43 => ?_)
 replace h := T_beq hb43 h
 refine ⟨rfl, ?_⟩
 refine ⟨rfl, _, rfl, ?_⟩
 obtain ⟨v44, hv45, h⟩ := bind_some h
 refine ⟨_, ACall.pure0 (ok_s_l1In hv45) _ rfl (fun _ => rfl), ?_⟩
 rintro _ _ ⟨rfl, rfl⟩
 exact ⟨[(1, .int .i64 a1), (2, .int .i64 a2), (3, .optr 0 0 0 0), (7, .bool (a0.fA == 0)), (8, .bool v44), (9, .bool b11)], [.row 0 5 1 53 (fun _ => [.int .i64 a0.fOp, .int .i64 a0.fA, .int .i64 a0.fB, .str a0.fS, .str a0.fT])], ⟨[0], by decide, (show 0 ≤ 1 by decide), ⟨.int_eq rfl, .int_eq rfl, .optr_eq rfl ⟨_, _, _, _, rfl⟩ ⟨_, _, _, _, rfl, Nat.zero_lt_one⟩ rfl rfl, .bool_eq rfl, .bool_eq rfl, .bool_eq rfl, trivial⟩, ⟨⟨fun h0 => absurd (show 0 < 0 from h0) (by decide), rfl, .inl rfl, rfl, fun _ _ => ⟨.int_eq rfl, .int_eq rfl, .int_eq rfl, .str_eq rfl, .str_eq rfl, trivial⟩⟩, trivial⟩⟩, (a0.fA == 0), v44, b11, Option.some.inj h, rfl, rfl⟩
 replace h := F_beq hb43 h
 obtain ⟨o47, ho48, hk49⟩ := bind_some h
 replace h := ho48
 refine .cut (fun σ η => ∃ b46, b46 = o47 ∧ σ = [(1, .int .i64 a1), (2, .int .i64 a2), (3, .optr 0 0 0 0), (7, .bool (a0.fA == 0)), (8, .bool (a0.fB == 0)), (9, .bool b11), (43, .int .i64 a0.fOp), (71, .bool b46)] ∧ η = [.row 0 5 1 53 (fun _ => [.int .i64 a0.fOp, .int .i64 a0.fA, .int .i64 a0.fB, .str a0.fS, .str a0.fT])]) ?_ ?_
 refine .direct ?_
 refine splitB.mk (fun hb50 => ?_) (fun hb50 => ?_)
 replace h := T_beq hb50 h
 exact ⟨[(1, .int .i64 a1), (2, .int .i64 a2), (3, .optr 0 0 0 0), (7, .bool (a0.fA == 0)), (8, .bool (a0.fB == 0)), (9, .bool b11), (43, .int .i64 a0.fOp), (71, .bool (a0.fOp == 18))], [.row 0 5 1 53 (fun _ => [.int .i64 a0.fOp, .int .i64 a0.fA, .int .i64 a0.fB, .str a0.fS, .str a0.fT])], ⟨[0], by decide, (show 0 ≤ 1 by decide), ⟨.int_eq rfl, .int_eq rfl, .optr_eq rfl ⟨_, _, _, _, rfl⟩ ⟨_, _, _, _, rfl, Nat.zero_lt_one⟩ rfl rfl, .bool_eq rfl, .bool_eq rfl, .bool_eq rfl, .int_eq rfl, .bool_eq rfl, trivial⟩, ⟨⟨fun h0 => absurd (show 0 < 0 from h0) (by decide), rfl, .inl rfl, rfl, fun _ _ => ⟨.int_eq rfl, .int_eq rfl, .int_eq rfl, .str_eq rfl, .str_eq rfl, trivial⟩⟩, trivial⟩⟩, (a0.fOp == 18), Option.some.inj h, rfl, rfl⟩
 replace h := F_beq hb50 h
 refine .direct ?_
 refine splitB.mk (fun hb51 => ?_) (fun hb51 => ?_)
 replace h := T_beq hb51 h
 exact ⟨[(1, .int .i64 a1), (2, .int .i64 a2), (3, .optr 0 0 0 0), (7, .bool (a0.fA == 0)), (8, .bool (a0.fB == 0)), (9, .bool b11), (43, .int .i64 a0.fOp), (71, .bool (a0.fOp == 19))], [.row 0 5 1 53 (fun _ => [.int .i64 a0.fOp, .int .i64 a0.fA, .int .i64 a0.fB, .str a0.fS, .str a0.fT])], ⟨[0], by decide, (show 0 ≤ 1 by decide), ⟨.int_eq rfl, .int_eq rfl, .optr_eq rfl ⟨_, _, _, _, rfl⟩ ⟨_, _, _, _, rfl, Nat.zero_lt_one⟩ rfl rfl, .bool_eq rfl, .bool_eq rfl, .bool_eq rfl, .int_eq rfl, .bool_eq rfl, trivial⟩, ⟨⟨fun h0 => absurd (show 0 < 0 from h0) (by decide), rfl, .inl rfl, rfl, fun _ _ => ⟨.int_eq rfl, .int_eq rfl, .int_eq rfl, .str_eq rfl, .str_eq rfl, trivial⟩⟩, trivial⟩⟩, (a0.fOp == 19), Option.some.inj h, rfl, rfl⟩
 replace h := F_beq hb51 h
 exact ⟨[(1, .int .i64 a1), (2, .int .i64 a2), (3, .optr 0 0 0 0), (7, .bool (a0.fA == 0)), (8, .bool (a0.fB == 0)), (9, .bool b11), (43, .int .i64 a0.fOp), (71, .bool (a0.fOp == 20))], [.row 0 5 1 53 (fun _ => [.int .i64 a0.fOp, .int .i64 a0.fA, .int .i64 a0.fB, .str a0.fS, .str a0.fT])], ⟨[0], by decide, (show 0 ≤ 1 by decide), ⟨.int_eq rfl, .int_eq rfl, .optr_eq rfl ⟨_, _, _, _, rfl⟩ ⟨_, _, _, _, rfl, Nat.zero_lt_one⟩ rfl rfl, .bool_eq rfl, .bool_eq rfl, .bool_eq rfl, .int_eq rfl, .bool_eq rfl, trivial⟩, ⟨⟨fun h0 => absurd (show 0 < 0 from h0) (by decide), rfl, .inl rfl, rfl, fun _ _ => ⟨.int_eq rfl, .int_eq rfl, .int_eq rfl, .str_eq rfl, .str_eq rfl, trivial⟩⟩, trivial⟩⟩, (a0.fOp == 20), Option.some.inj h, rfl, rfl⟩
 rintro _ _ ⟨b46, rfl, rfl, rfl⟩
 replace h := hk49
 refine splitB.mk (fun hb52 => ?_) (fun hb52 => ?_)
 replace h := T_var hb52 h
 refine ⟨rfl, ?_⟩
 refine ⟨rfl, _, rfl, ?_⟩
 obtain ⟨v53, hv54, h⟩ := bind_some h
 refine ⟨_, ACall.pure0 (ok_s_l1In hv54) _ rfl (fun _ => rfl), ?_⟩
 rintro _ _ ⟨rfl, rfl⟩
 exact ⟨[(1, .int .i64 a1), (2, .int .i64 a2), (3, .optr 0 0 0 0), (7, .bool (a0.fA == 0)), (8, .bool v53), (9, .bool b11)], [.row 0 5 1 53 (fun _ => [.int .i64 a0.fOp, .int .i64 a0.fA, .int .i64 a0.fB, .str a0.fS, .str a0.fT])], ⟨[0], by decide, (show 0 ≤ 1 by decide), ⟨.int_eq rfl, .int_eq rfl, .optr_eq rfl ⟨_, _, _, _, rfl⟩ ⟨_, _, _, _, rfl, Nat.zero_lt_one⟩ rfl rfl, .bool_eq rfl, .bool_eq rfl, .bool_eq rfl, trivial⟩, ⟨⟨fun h0 => absurd (show 0 < 0 from h0) (by decide), rfl, .inl rfl, rfl, fun _ _ => ⟨.int_eq rfl, .int_eq rfl, .int_eq rfl, .str_eq rfl, .str_eq rfl, trivial⟩⟩, trivial⟩⟩, (a0.fA == 0), v53, b11, Option.some.inj h, rfl, rfl⟩
 replace h := F_var hb52 h
 obtain ⟨o56, ho57, hk58⟩ := bind_some h
 replace h := ho57
 refine .cut (fun σ η => ∃ b55, b55 = o56 ∧ σ = [(1, .int .i64 a1), (2, .int .i64 a2), (3, .optr 0 0 0 0), (7, .bool (a0.fA == 0)), (8, .bool (a0.fB == 0)), (9, .bool b11), (43, .int .i64 a0.fOp), (78, .bool b55)] ∧ η = [.row 0 5 1 53 (fun _ => [.int .i64 a0.fOp, .int .i64 a0.fA, .int .i64 a0.fB, .str a0.fS, .str a0.fT])]) ?_ ?_
 refine .direct ?_
 refine splitB.mk (fun hb59 => ?_) (fun hb59 => ?_)
 replace h := T_beq hb59 h
 exact ⟨[(1, .int .i64 a1), (2, .int .i64 a2), (3, .optr 0 0 0 0), (7, .bool (a0.fA == 0)), (8, .bool (a0.fB == 0)), (9, .bool b11), (43, .int .i64 a0.fOp), (78, .bool (a0.fOp == 21))], [.row 0 5 1 53 (fun _ => [.int .i64 a0.fOp, .int .i64 a0.fA, .int .i64 a0.fB, .str a0.fS, .str a0.fT])], ⟨[0], by decide, (show 0 ≤ 1 by decide), ⟨.int_eq rfl, .int_eq rfl, .optr_eq rfl ⟨_, _, _, _, rfl⟩ ⟨_, _, _, _, rfl, Nat.zero_lt_one⟩ rfl rfl, .bool_eq rfl, .bool_eq rfl, .bool_eq rfl, .int_eq rfl, .bool_eq rfl, trivial⟩, ⟨⟨fun h0 => absurd (show 0 < 0 from h0) (by decide), rfl, .inl rfl, rfl, fun _ _ => ⟨.int_eq rfl, .int_eq rfl, .int_eq rfl, .str_eq rfl, .str_eq rfl, trivial⟩⟩, trivial⟩⟩, (a0.fOp == 21), Option.some.inj h, rfl, rfl⟩
 replace h := F_beq hb59 h
 refine .direct ?_
 refine splitB.mk (fun hb60 => ?_) (fun hb60 => ?_)
 replace h := T_beq hb60 h
 exact ⟨[(1, .int .i64 a1), (2, .int .i64 a2), (3, .optr 0 0 0 0), (7, .bool (a0.fA == 0)), (8, .bool (a0.fB == 0)), (9, .bool b11), (43, .int .i64 a0.fOp), (78, .bool (a0.fOp == 22))], [.row 0 5 1 53 (fun _ => [.int .i64 a0.fOp, .int .i64 a0.fA, .int .i64 a0.fB, .str a0.fS, .str a0.fT])], ⟨[0], by decide, (show 0 ≤ 1 by decide), ⟨.int_eq rfl, .int_eq rfl, .optr_eq rfl ⟨_, _, _, _, rfl⟩ ⟨_, _, _, _, rfl, Nat.zero_lt_one⟩ rfl rfl, .bool_eq rfl, .bool_eq rfl, .bool_eq rfl, .int_eq rfl, .bool_eq rfl, trivial⟩, ⟨⟨fun h0 => absurd (show 0 < 0 from h0) (by decide), rfl, .inl rfl, rfl, fun _ _ => ⟨.int_eq rfl, .int_eq rfl, .int_eq rfl, .str_eq rfl, .str_eq rfl, trivial⟩⟩, trivial⟩⟩, (a0.fOp == 22), Option.some.inj h, rfl, rfl⟩
 replace h := F_beq hb60 h
 exact ⟨[(1, .int .i64 a1), (2, .int .i64 a2), (3, .optr 0 0 0 0), (7, .bool (a0.fA == 0)), (8, .bool (a0.fB == 0)), (9, .bool b11), (43, .int .i64 a0.fOp), (78, .bool (a0.fOp == 23))], [.row 0 5 1 53 (fun _ => [.int .i64 a0.fOp, .int .i64 a0.fA, .int .i64 a0.fB, .str a0.fS, .str a0.fT])], ⟨[0], by decide, (show 0 ≤ 1 by decide), ⟨.int_eq rfl, .int_eq rfl, .optr_eq rfl ⟨_, _, _, _, rfl⟩ ⟨_, _, _, _, rfl, Nat.zero_lt_one⟩ rfl rfl, .bool_eq rfl, .bool_eq rfl, .bool_eq rfl, .int_eq rfl, .bool_eq rfl, trivial⟩, ⟨⟨fun h0 => absurd (show 0 < 0 from h0) (by decide), rfl, .inl rfl, rfl, fun _ _ => ⟨.int_eq rfl, .int_eq rfl, .int_eq rfl, .str_eq rfl, .str_eq rfl, trivial⟩⟩, trivial⟩⟩, (a0.fOp == 23), Option.some.inj h, rfl, rfl⟩
 rintro _ _ ⟨b55, rfl, rfl, rfl⟩
 replace h := hk58
 refine splitB.mk (fun hb61 => ?_) (fun hb61 => ?_)
 replace h := T_var hb61 h
 refine ⟨rfl, ?_⟩
 refine ⟨rfl, _, rfl, ?_⟩
 obtain ⟨v62, hv63, h⟩ := bind_some h
 refine ⟨_, ACall.pure0 (ok_s_l1In hv63) _ rfl (fun _ => rfl), ?_⟩
 rintro _ _ ⟨rfl, rfl⟩
 exact ⟨[(1, .int .i64 a1), (2, .int .i64 a2), (3, .optr 0 0 0 0), (7, .bool (a0.fA == 0)), (8, .bool v62), (9, .bool b11)], [.row 0 5 1 53 (fun _ => [.int .i64 a0.fOp, .int .i64 a0.fA, .int .i64 a0.fB, .str a0.fS, .str a0.fT])], ⟨[0], by decide, (show 0 ≤ 1 by decide), ⟨.int_eq rfl, .int_eq rfl, .optr_eq rfl ⟨_, _, _, _, rfl⟩ ⟨_, _, _, _, rfl, Nat.zero_lt_one⟩ rfl rfl, .bool_eq rfl, .bool_eq rfl, .bool_eq rfl, trivial⟩, ⟨⟨fun h0 => absurd (show 0 < 0 from h0) (by decide), rfl, .inl rfl, rfl, fun _ _ => ⟨.int_eq rfl, .int_eq rfl, .int_eq rfl, .str_eq rfl, .str_eq rfl, trivial⟩⟩, trivial⟩⟩, (a0.fA == 0), v62, b11, Option.some.inj h, rfl, rfl⟩
 replace h := F_var hb61 h
 refine .direct ?_
 refine splitB.mk (fun hb64 => ?_) (fun hb64 => ?_)
 replace h := T_beq hb64 h
 refine ⟨rfl, ?_⟩
 refine ⟨rfl, _, rfl, ?_⟩
 refine splitB.mk (fun hb65 => ?_) (fun hb65 => ?_)
 replace h := T_dec hb65 h
 refine ⟨rfl, ?_⟩
 refine splitB_t ?_
 refine ⟨rfl, _, rfl, ?_⟩
 refine splitB_t ?_
 refine splitB_t ?_
 refine splitB_t ?_
 exact ⟨[(1, .int .i64 a1), (2, .int .i64 a2), (3, .optr 0 0 0 0), (7, .bool (a0.fA == 0)), (8, .bool (decide (a0.fB < a1))), (9, .bool b11)], [.row 0 5 1 53 (fun _ => [.int .i64 a0.fOp, .int .i64 a0.fA, .int .i64 a0.fB, .str a0.fS, .str a0.fT])], ⟨[0], by decide, (show 0 ≤ 1 by decide), ⟨.int_eq rfl, .int_eq rfl, .optr_eq rfl ⟨_, _, _, _, rfl⟩ ⟨_, _, _, _, rfl, Nat.zero_lt_one⟩ rfl rfl, .bool_eq rfl, .bool_eq rfl, .bool_eq rfl, trivial⟩, ⟨⟨fun h0 => absurd (show 0 < 0 from h0) (by decide), rfl, .inl rfl, rfl, fun _ _ => ⟨.int_eq rfl, .int_eq rfl, .int_eq rfl, .str_eq rfl, .str_eq rfl, trivial⟩⟩, trivial⟩⟩, (a0.fA == 0), (decide (a0.fB < a1)), b11, Option.some.inj h, rfl, rfl⟩
 replace h := F_dec hb65 h
 refine splitB_f ?_
 refine splitB_f ?_
 refine splitB_f ?_
 refine splitB_f ?_
 exact ⟨[(1, .int .i64 a1), (2, .int .i64 a2), (3, .optr 0 0 0 0), (7, .bool (a0.fA == 0)), (8, .bool false), (9, .bool b11)], [.row 0 5 1 53 (fun _ => [.int .i64 a0.fOp, .int .i64 a0.fA, .int .i64 a0.fB, .str a0.fS, .str a0.fT])], ⟨[0], by decide, (show 0 ≤ 1 by decide), ⟨.int_eq rfl, .int_eq rfl, .optr_eq rfl ⟨_, _, _, _, rfl⟩ ⟨_, _, _, _, rfl, Nat.zero_lt_one⟩ rfl rfl, .bool_eq rfl, .bool_eq rfl, .bool_eq rfl, trivial⟩, ⟨⟨fun h0 => absurd (show 0 < 0 from h0) (by decide), rfl, .inl rfl, rfl, fun _ _ => ⟨.int_eq rfl, .int_eq rfl, .int_eq rfl, .str_eq rfl, .str_eq rfl, trivial⟩⟩, trivial⟩⟩, (a0.fA == 0), false, b11, Option.some.inj h, rfl, rfl⟩
 replace h := F_beq hb64 h
 refine .direct ?_
 refine splitB.mk (fun hb66 => ?_) (fun hb66 => ?_)
 replace h := T_beq hb66 h
 refine ⟨rfl, ?_⟩
 refine ⟨rfl, _, rfl, ?_⟩
 obtain ⟨v67, hv68, h⟩ := bind_some h
 refine ⟨_, ACall.pure0 (ok_s_l1In hv68) _ rfl (fun _ => rfl), ?_⟩
 rintro _ _ ⟨rfl, rfl⟩
 exact ⟨[(1, .int .i64 a1), (2, .int .i64 a2), (3, .optr 0 0 0 0), (7, .bool (a0.fA == 0)), (8, .bool v67), (9, .bool b11)], [.row 0 5 1 53 (fun _ => [.int .i64 a0.fOp, .int .i64 a0.fA, .int .i64 a0.fB, .str a0.fS, .str a0.fT])], ⟨[0], by decide, (show 0 ≤ 1 by decide), ⟨.int_eq rfl, .int_eq rfl, .optr_eq rfl ⟨_, _, _, _, rfl⟩ ⟨_, _, _, _, rfl, Nat.zero_lt_one⟩ rfl rfl, .bool_eq rfl, .bool_eq rfl, .bool_eq rfl, trivial⟩, ⟨⟨fun h0 => absurd (show 0 < 0 from h0) (by decide), rfl, .inl rfl, rfl, fun _ _ => ⟨.int_eq rfl, .int_eq rfl, .int_eq rfl, .str_eq rfl, .str_eq rfl, trivial⟩⟩, trivial⟩⟩, (a0.fA == 0), v67, b11, Option.some.inj h, rfl, rfl⟩
 replace h := F_beq hb66 h
 refine .direct ?_
 refine splitB.mk (fun hb69 => ?_) (fun hb69 => ?_)
 replace h := T_beq hb69 h
 refine ⟨rfl, ?_⟩
 refine ⟨rfl, _, rfl, ?_⟩
 obtain ⟨v70, hv71, h⟩ := bind_some h
 refine ⟨_, ACall.pure0 (ok_s_l1In hv71) _ rfl (fun _ => rfl), ?_⟩
 rintro _ _ ⟨rfl, rfl⟩
 exact ⟨[(1, .int .i64 a1), (2, .int .i64 a2), (3, .optr 0 0 0 0), (7, .bool (a0.fA == 0)), (8, .bool v70), (9, .bool b11)], [.row 0 5 1 53 (fun _ => [.int .i64 a0.fOp, .int .i64 a0.fA, .int .i64 a0.fB, .str a0.fS, .str a0.fT])], ⟨[0], by decide, (show 0 ≤ 1 by decide), ⟨.int_eq rfl, .int_eq rfl, .optr_eq rfl ⟨_, _, _, _, rfl⟩ ⟨_, _, _, _, rfl, Nat.zero_lt_one⟩ rfl rfl, .bool_eq rfl, .bool_eq rfl, .bool_eq rfl, trivial⟩, ⟨⟨fun h0 => absurd (show 0 < 0 from h0) (by decide), rfl, .inl rfl, rfl, fun _ _ => ⟨.int_eq rfl, .int_eq rfl, .int_eq rfl, .str_eq rfl, .str_eq rfl, trivial⟩⟩, trivial⟩⟩, (a0.fA == 0), v70, b11, Option.some.inj h, rfl, rfl⟩
 replace h := F_beq hb69 h
 exact ⟨[(1, .int .i64 a1), (2, .int .i64 a2), (3, .optr 0 0 0 0), (7, .bool (a0.fA == 0)), (8, .bool (a0.fB == 0)), (9, .bool b11)], [.row 0 5 1 53 (fun _ => [.int .i64 a0.fOp, .int .i64 a0.fA, .int .i64 a0.fB, .str a0.fS, .str a0.fT])], ⟨[0], by decide, (show 0 ≤ 1 by decide), ⟨.int_eq rfl, .int_eq rfl, .optr_eq rfl ⟨_, _, _, _, rfl⟩ ⟨_, _, _, _, rfl, Nat.zero_lt_one⟩ rfl rfl, .bool_eq rfl, .bool_eq rfl, .bool_eq rfl, trivial⟩, ⟨⟨fun h0 => absurd (show 0 < 0 from h0) (by decide), rfl, .inl rfl, rfl, fun _ _ => ⟨.int_eq rfl, .int_eq rfl, .int_eq rfl, .str_eq rfl, .str_eq rfl, trivial⟩⟩, trivial⟩⟩, (a0.fA == 0), (a0.fB == 0), b11, Option.some.inj h, rfl, rfl⟩
 rintro _ _ ⟨b22, b23, b24, rfl, rfl, rfl⟩
 replace h := hk27
 obtain ⟨o73, ho74, hk75⟩ := bind_some h
 replace h := ho74
 refine .cut (fun σ η => ∃ b72, b72 = o73 ∧ σ = [(2, .int .i64 a2), (3, .optr 0 0 0 0), (7, .bool b72), (8, .bool b23), (9, .bool b24)] ∧ η = [.row 0 5 1 53 (fun _ => [.int .i64 a0.fOp, .int .i64 a0.fA, .int .i64 a0.fB, .str a0.fS, .str a0.fT])]) ?_ ?_
 refine .direct ?_
 refine ⟨rfl, ?_⟩
 refine ⟨rfl, _, rfl, ?_⟩
 obtain ⟨v76, hv77, h⟩ := bind_some h
 refine ⟨_, ACall.pure0 (ok_s_l25Slot hv77) _ rfl (fun _ => rfl), ?_⟩
 rintro _ _ ⟨rfl, rfl⟩
 refine splitB.mk (fun hb78 => ?_) (fun hb78 => ?_)
 replace h := T_var hb78 h
 refine ⟨rfl, ?_⟩
 refine ⟨rfl, _, rfl, ?_⟩
 refine splitB.mk (fun hb79 => ?_) (fun hb79 => ?_)
 replace h := T_dec hb79 h
 refine ⟨rfl, ?_⟩
 refine splitB_t ?_
 refine ⟨rfl, _, rfl, ?_⟩
 refine splitB_t ?_
 refine splitB_t ?_
 refine splitB_t ?_
 exact ⟨[(2, .int .i64 a2), (3, .optr 0 0 0 0), (7, .bool (decide (a0.fA < a1))), (8, .bool b23), (9, .bool b24)], [.row 0 5 1 53 (fun _ => [.int .i64 a0.fOp, .int .i64 a0.fA, .int .i64 a0.fB, .str a0.fS, .str a0.fT])], ⟨[0], by decide, (show 0 ≤ 1 by decide), ⟨.int_eq rfl, .optr_eq rfl ⟨_, _, _, _, rfl⟩ ⟨_, _, _, _, rfl, Nat.zero_lt_one⟩ rfl rfl, .bool_eq rfl, .bool_eq rfl, .bool_eq rfl, trivial⟩, ⟨⟨fun h0 => absurd (show 0 < 0 from h0) (by decide), rfl, .inl rfl, rfl, fun _ _ => ⟨.int_eq rfl, .int_eq rfl, .int_eq rfl, .str_eq rfl, .str_eq rfl, trivial⟩⟩, trivial⟩⟩, (decide (a0.fA < a1)), Option.some.inj h, rfl, rfl⟩
 replace h := F_dec hb79 h
 refine splitB_f ?_
 refine splitB_f ?_
 refine splitB_f ?_
 refine splitB_f ?_
 exact ⟨[(2, .int .i64 a2), (3, .optr 0 0 0 0), (7, .bool false), (8, .bool b23), (9, .bool b24)], [.row 0 5 1 53 (fun _ => [.int .i64 a0.fOp, .int .i64 a0.fA, .int .i64 a0.fB, .str a0.fS, .str a0.fT])], ⟨[0], by decide, (show 0 ≤ 1 by decide), ⟨.int_eq rfl, .optr_eq rfl ⟨_, _, _, _, rfl⟩ ⟨_, _, _, _, rfl, Nat.zero_lt_one⟩ rfl rfl, .bool_eq rfl, .bool_eq rfl, .bool_eq rfl, trivial⟩, ⟨⟨fun h0 => absurd (show 0 < 0 from h0) (by decide), rfl, .inl rfl, rfl, fun _ _ => ⟨.int_eq rfl, .int_eq rfl, .int_eq rfl, .str_eq rfl, .str_eq rfl, trivial⟩⟩, trivial⟩⟩, false, Option.some.inj h, rfl, rfl⟩
 replace h := F_var hb78 h
 exact ⟨[(2, .int .i64 a2), (3, .optr 0 0 0 0), (7, .bool b22), (8, .bool b23), (9, .bool b24)], [.row 0 5 1 53 (fun _ => [.int .i64 a0.fOp, .int .i64 a0.fA, .int .i64 a0.fB, .str a0.fS, .str a0.fT])], ⟨[0], by decide, (show 0 ≤ 1 by decide), ⟨.int_eq rfl, .optr_eq rfl ⟨_, _, _, _, rfl⟩ ⟨_, _, _, _, rfl, Nat.zero_lt_one⟩ rfl rfl, .bool_eq rfl, .bool_eq rfl, .bool_eq rfl, trivial⟩, ⟨⟨fun h0 => absurd (show 0 < 0 from h0) (by decide), rfl, .inl rfl, rfl, fun _ _ => ⟨.int_eq rfl, .int_eq rfl, .int_eq rfl, .str_eq rfl, .str_eq rfl, trivial⟩⟩, trivial⟩⟩, b22, Option.some.inj h, rfl, rfl⟩
 rintro _ _ ⟨b72, rfl, rfl, rfl⟩
 replace h := hk75
 obtain ⟨o81, ho82, hk83⟩ := bind_some h
 replace h := ho82
 refine .cut (fun σ η => ∃ b80, b80 = o81 ∧ σ = [(3, .optr 0 0 0 0), (7, .bool b80), (8, .bool b23), (9, .bool b24)] ∧ η = [.row 0 5 1 53 (fun _ => [.int .i64 a0.fOp, .int .i64 a0.fA, .int .i64 a0.fB, .str a0.fS, .str a0.fT])]) ?_ ?_
 refine .direct ?_
 refine ⟨rfl, ?_⟩
 refine ⟨rfl, _, rfl, ?_⟩
 obtain ⟨v84, hv85, h⟩ := bind_some h
 refine ⟨_, ACall.pure0 (ok_s_HasTarget hv85) _ rfl (fun _ => rfl), ?_⟩
 rintro _ _ ⟨rfl, rfl⟩
 refine splitB.mk (fun hb86 => ?_) (fun hb86 => ?_)
 replace h := T_var hb86 h
 refine ⟨rfl, ?_⟩
 refine ⟨rfl, _, rfl, ?_⟩
 refine splitB.mk (fun hb87 => ?_) (fun hb87 => ?_)
 replace h := T_dec hb87 h
 refine ⟨rfl, ?_⟩
 refine splitB_t ?_
 refine ⟨rfl, _, rfl, ?_⟩
 refine splitB_t ?_
 refine splitB_t ?_
 refine splitB_t ?_
 exact ⟨[(3, .optr 0 0 0 0), (7, .bool (decide (a0.fA < a2))), (8, .bool b23), (9, .bool b24)], [.row 0 5 1 53 (fun _ => [.int .i64 a0.fOp, .int .i64 a0.fA, .int .i64 a0.fB, .str a0.fS, .str a0.fT])], ⟨[0], by decide, (show 0 ≤ 1 by decide), ⟨.optr_eq rfl ⟨_, _, _, _, rfl⟩ ⟨_, _, _, _, rfl, Nat.zero_lt_one⟩ rfl rfl, .bool_eq rfl, .bool_eq rfl, .bool_eq rfl, trivial⟩, ⟨⟨fun h0 => absurd (show 0 < 0 from h0) (by decide), rfl, .inl rfl, rfl, fun _ _ => ⟨.int_eq rfl, .int_eq rfl, .int_eq rfl, .str_eq rfl, .str_eq rfl, trivial⟩⟩, trivial⟩⟩, (decide (a0.fA < a2)), Option.some.inj h, rfl, rfl⟩
 replace h := F_dec hb87 h
 refine splitB_f ?_
 refine splitB_f ?_
 refine splitB_f ?_
 refine splitB_f ?_
 exact ⟨[(3, .optr 0 0 0 0), (7, .bool false), (8, .bool b23), (9, .bool b24)], [.row 0 5 1 53 (fun _ => [.int .i64 a0.fOp, .int .i64 a0.fA, .int .i64 a0.fB, .str a0.fS, .str a0.fT])], ⟨[0], by decide, (show 0 ≤ 1 by decide), ⟨.optr_eq rfl ⟨_, _, _, _, rfl⟩ ⟨_, _, _, _, rfl, Nat.zero_lt_one⟩ rfl rfl, .bool_eq rfl, .bool_eq rfl, .bool_eq rfl, trivial⟩, ⟨⟨fun h0 => absurd (show 0 < 0 from h0) (by decide), rfl, .inl rfl, rfl, fun _ _ => ⟨.int_eq rfl, .int_eq rfl, .int_eq rfl, .str_eq rfl, .str_eq rfl, trivial⟩⟩, trivial⟩⟩, false, Option.some.inj h, rfl, rfl⟩
 replace h := F_var hb86 h
 exact ⟨[(3, .optr 0 0 0 0), (7, .bool b72), (8, .bool b23), (9, .bool b24)], [.row 0 5 1 53 (fun _ => [.int .i64 a0.fOp, .int .i64 a0.fA, .int .i64 a0.fB, .str a0.fS, .str a0.fT])], ⟨[0], by decide, (show 0 ≤ 1 by decide), ⟨.optr_eq rfl ⟨_, _, _, _, rfl⟩ ⟨_, _, _, _, rfl, Nat.zero_lt_one⟩ rfl rfl, .bool_eq rfl, .bool_eq rfl, .bool_eq rfl, trivial⟩, ⟨⟨fun h0 => absurd (show 0 < 0 from h0) (by decide), rfl, .inl rfl, rfl, fun _ _ => ⟨.int_eq rfl, .int_eq rfl, .int_eq rfl, .str_eq rfl, .str_eq rfl, trivial⟩⟩, trivial⟩⟩, b72, Option.some.inj h, rfl, rfl⟩
 rintro _ _ ⟨b80, rfl, rfl, rfl⟩
 replace h := hk83
 refine .direct ?_
 refine ⟨rfl, ?_⟩
 refine ⟨rfl, _, rfl, ?_⟩
 obtain ⟨o89, ho90, hk91⟩ := bind_some h
 replace h := ho90
 refine .cut (fun σ η => ∃ b88, b88 = o89 ∧ σ = [(3, .optr 0 0 0 0), (7, .bool b80), (8, .bool b23), (9, .bool b24), (10, .bool b88)] ∧ η = [.row 0 5 1 53 (fun _ => [.int .i64 a0.fOp, .int .i64 a0.fA, .int .i64 a0.fB, .str a0.fS, .str a0.fT])]) ?_ ?_
 refine .direct ?_
 refine ⟨rfl, ?_⟩
 refine ⟨rfl, _, rfl, ?_⟩
 refine splitB.mk (fun hb92 => ?_) (fun hb92 => ?_)
 replace h := T_beq hb92 h
 refine ⟨rfl, ?_⟩
 refine ⟨rfl, _, rfl, ?_⟩
 obtain ⟨v93, hv94, h⟩ := bind_some h
 refine ⟨_, ACall.pure0 (ok_s_l15Name hv94) _ rfl (fun _ => rfl), ?_⟩
 rintro _ _ ⟨rfl, rfl⟩
 exact ⟨[(3, .optr 0 0 0 0), (7, .bool b80), (8, .bool b23), (9, .bool b24), (10, .bool v93)], [.row 0 5 1 53 (fun _ => [.int .i64 a0.fOp, .int .i64 a0.fA, .int .i64 a0.fB, .str a0.fS, .str a0.fT])], ⟨[0], by decide, (show 0 ≤ 1 by decide), ⟨.optr_eq rfl ⟨_, _, _, _, rfl⟩ ⟨_, _, _, _, rfl, Nat.zero_lt_one⟩ rfl rfl, .bool_eq rfl, .bool_eq rfl, .bool_eq rfl, .bool_eq rfl, trivial⟩, ⟨⟨fun h0 => absurd (show 0 < 0 from h0) (by decide), rfl, .inl rfl, rfl, fun _ _ => ⟨.int_eq rfl, .int_eq rfl, .int_eq rfl, .str_eq rfl, .str_eq rfl, trivial⟩⟩, trivial⟩⟩, v93, Option.some.inj h, rfl, rfl⟩
 replace h := F_beq hb92 h
 exact ⟨[(3, .optr 0 0 0 0), (7, .bool b80), (8, .bool b23), (9, .bool b24), (10, .bool (a0.fT == ([] : Str)))], [.row 0 5 1 53 (fun _ => [.int .i64 a0.fOp, .int .i64 a0.fA, .int .i64 a0.fB, .str a0.fS, .str a0.fT])], ⟨[0], by decide, (show 0 ≤ 1 by decide), ⟨.optr_eq rfl ⟨_, _, _, _, rfl⟩ ⟨_, _, _, _, rfl, Nat.zero_lt_one⟩ rfl rfl, .bool_eq rfl, .bool_eq rfl, .bool_eq rfl, .bool_eq rfl, trivial⟩, ⟨⟨fun h0 => absurd (show 0 < 0 from h0) (by decide), rfl, .inl rfl, rfl, fun _ _ => ⟨.int_eq rfl, .int_eq rfl, .int_eq rfl, .str_eq rfl, .str_eq rfl, trivial⟩⟩, trivial⟩⟩, (a0.fT == ([] : Str)), Option.some.inj h, rfl, rfl⟩
 rintro _ _ ⟨b88, rfl, rfl, rfl⟩
 replace h := hk91
 refine .direct ?_
 refine ⟨rfl, ?_⟩
 refine ⟨rfl, _, rfl, ?_⟩
 obtain ⟨v95, hv96, h⟩ := bind_some h
 refine ⟨_, ACall.pure0 (ok_s_l1In hv96) _ rfl (fun _ => rfl), ?_⟩
 rintro _ _ ⟨rfl, rfl⟩
 refine splitB.mk (fun hb97 => ?_) (fun hb97 => ?_)
 replace h := T_var hb97 h
 refine splitB_t ?_
 refine splitB.mk (fun hb98 => ?_) (fun hb98 => ?_)
 replace h := T_var hb98 h
 refine splitB_t ?_
 refine splitB.mk (fun hb99 => ?_) (fun hb99 => ?_)
 replace h := T_var hb99 h
 refine splitB_t ?_
 refine splitB.mk (fun hb100 => ?_) (fun hb100 => ?_)
 replace h := T_var hb100 h
 refine splitB_t ?_
 obtain rfl := Option.some.inj h
 exact ⟨[], .bool b88, [], by decide, (show 0 ≤ 0 by decide), .bool_eq rfl, trivial, rfl, rfl⟩
 replace h := F_var hb100 h
 refine splitB_f ?_
 obtain rfl := Option.some.inj h
 exact ⟨[], .bool false, [], by decide, (show 0 ≤ 0 by decide), .bool_eq rfl, trivial, rfl, rfl⟩
 replace h := F_var hb99 h
 refine splitB_f ?_
 refine splitB_f ?_
 refine splitB_f ?_
 obtain rfl := Option.some.inj h
 exact ⟨[], .bool false, [], by decide, (show 0 ≤ 0 by decide), .bool_eq rfl, trivial, rfl, rfl⟩
 replace h := F_var hb98 h
 refine splitB_f ?_
 refine splitB_f ?_
 refine splitB_f ?_
 refine splitB_f ?_
 refine splitB_f ?_
 obtain rfl := Option.some.inj h
 exact ⟨[], .bool false, [], by decide, (show 0 ≤ 0 by decide), .bool_eq rfl, trivial, rfl, rfl⟩
 replace h := F_var hb97 h
 refine splitB_f ?_
 refine splitB_f ?_
 refine splitB_f ?_
 refine splitB_f ?_
 refine splitB_f ?_
 refine splitB_f ?_
 refine splitB_f ?_
 obtain rfl := Option.some.inj h
 exact ⟨[], .bool false, [], by decide, (show 0 ≤ 0 by decide), .bool_eq rfl, trivial, rfl, rfl⟩
end Go.Am
