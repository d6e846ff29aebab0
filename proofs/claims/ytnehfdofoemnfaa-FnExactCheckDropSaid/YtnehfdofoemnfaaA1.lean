/- Models of Go functions, and their walks. (Printed by tools/mg.py.) -/
import Derived.Test.YtnehfdofoemnfaaTy
set_option linter.unusedVariables false
set_option linter.unusedSimpArgs false
namespace Go.Am
open Go Go.RowKit Go.Proofs

def m_i_InRange (a0 : Int) (a1 : Int) (a2 : Int) : Option (Bool) :=
 (if a1 ≤ a0 then
 some (decide (a0 ≤ a2))
 else
 some false)
theorem ok_i_InRange {a0 : Int} {a1 : Int} {a2 : Int} {r : Bool} (h : m_i_InRange a0 a1 a2 = some r) : ACall Try.prog 36 [.int .i64 a0, .int .i64 a1, .int .i64 a2] [] (fun res h => res = .bool r ∧ h = []) := by
 refine ACall.of_vc tabT_ok mixed Try.func36 rfl (by kernel_rfl) _ _ _ rfl (by kernel_rfl) ?_
 unfold m_i_InRange at h
 refine .direct ?_
 refine .direct ?_
 refine splitB.mk (fun hb1 => ?_) (fun hb1 => ?_)
 replace h := T_dec hb1 h
 refine splitB_t ?_
 refine splitB_t ?_
 refine splitB_t ?_
 obtain rfl := Option.some.inj h
 exact ⟨[], .bool (decide (a0 ≤ a2)), [], by decide, (show 0 ≤ 0 by decide), .bool_eq rfl, trivial, rfl, rfl⟩
 replace h := F_dec hb1 h
 refine splitB_f ?_
 refine splitB_f ?_
 refine splitB_f ?_
 obtain rfl := Option.some.inj h
 exact ⟨[], .bool false, [], by decide, (show 0 ≤ 0 by decide), .bool_eq rfl, trivial, rfl, rfl⟩
def m_i_isLetter (a0 : Int) : Option (Bool) :=
 (if a0 ≥ 65 then
 (if a0 ≤ 90 then
 some true
 else
 (if a0 ≥ 97 then
 some (decide (a0 ≤ 122))
 else
 some false))
 else
 (if a0 ≥ 97 then
 some (decide (a0 ≤ 122))
 else
 some false))
theorem ok_i_isLetter {a0 : Int} {r : Bool} (h : m_i_isLetter a0 = some r) : ACall Try.prog 100 [.int .u8 a0] [] (fun res h => res = .bool r ∧ h = []) := by
 refine ACall.of_vc tabT_ok mixed Try.func100 rfl (by kernel_rfl) _ _ _ rfl (by kernel_rfl) ?_
 unfold m_i_isLetter at h
 refine .direct ?_
 refine .direct ?_
 refine splitB.mk (fun hb1 => ?_) (fun hb1 => ?_)
 replace h := T_dec hb1 h
 refine splitB_t ?_
 refine splitB_t ?_
 refine splitB.mk (fun hb2 => ?_) (fun hb2 => ?_)
 replace h := T_dec hb2 h
 refine splitB_t ?_
 refine splitB_t ?_
 refine splitB_t ?_
 refine splitB_t ?_
 obtain rfl := Option.some.inj h
 exact ⟨[], .bool true, [], by decide, (show 0 ≤ 0 by decide), .bool_eq rfl, trivial, rfl, rfl⟩
 replace h := F_dec hb2 h
 refine splitB_f ?_
 refine splitB_f ?_
 refine splitB.mk (fun hb3 => ?_) (fun hb3 => ?_)
 replace h := T_dec hb3 h
 refine splitB_t ?_
 refine splitB_f ?_
 refine splitB_t ?_
 refine splitB_f ?_
 obtain rfl := Option.some.inj h
 exact ⟨[], .bool (decide (a0 ≤ 122)), [], by decide, (show 0 ≤ 0 by decide), .bool_eq rfl, trivial, rfl, rfl⟩
 replace h := F_dec hb3 h
 refine splitB_f ?_
 refine splitB_f ?_
 refine splitB_f ?_
 refine splitB_f ?_
 obtain rfl := Option.some.inj h
 exact ⟨[], .bool false, [], by decide, (show 0 ≤ 0 by decide), .bool_eq rfl, trivial, rfl, rfl⟩
 replace h := F_dec hb1 h
 refine splitB_f ?_
 refine splitB_f ?_
 refine splitB_f ?_
 refine splitB_f ?_
 refine splitB_f ?_
 refine splitB.mk (fun hb4 => ?_) (fun hb4 => ?_)
 replace h := T_dec hb4 h
 refine splitB_t ?_
 refine splitB_f ?_
 refine splitB_t ?_
 refine splitB_f ?_
 obtain rfl := Option.some.inj h
 exact ⟨[], .bool (decide (a0 ≤ 122)), [], by decide, (show 0 ≤ 0 by decide), .bool_eq rfl, trivial, rfl, rfl⟩
 replace h := F_dec hb4 h
 refine splitB_f ?_
 refine splitB_f ?_
 refine splitB_f ?_
 refine splitB_f ?_
 obtain rfl := Option.some.inj h
 exact ⟨[], .bool false, [], by decide, (show 0 ≤ 0 by decide), .bool_eq rfl, trivial, rfl, rfl⟩
def m_i_isDigit (a0 : Int) : Option (Bool) :=
 (if a0 ≥ 48 then
 some (decide (a0 ≤ 57))
 else
 some false)
theorem ok_i_isDigit {a0 : Int} {r : Bool} (h : m_i_isDigit a0 = some r) : ACall Try.prog 101 [.int .u8 a0] [] (fun res h => res = .bool r ∧ h = []) := by
 refine ACall.of_vc tabT_ok mixed Try.func101 rfl (by kernel_rfl) _ _ _ rfl (by kernel_rfl) ?_
 unfold m_i_isDigit at h
 refine .direct ?_
 refine .direct ?_
 refine splitB.mk (fun hb1 => ?_) (fun hb1 => ?_)
 replace h := T_dec hb1 h
 refine splitB_t ?_
 refine splitB_t ?_
 obtain rfl := Option.some.inj h
 exact ⟨[], .bool (decide (a0 ≤ 57)), [], by decide, (show 0 ≤ 0 by decide), .bool_eq rfl, trivial, rfl, rfl⟩
 replace h := F_dec hb1 h
 refine splitB_f ?_
 refine splitB_f ?_
 obtain rfl := Option.some.inj h
 exact ⟨[], .bool false, [], by decide, (show 0 ≤ 0 by decide), .bool_eq rfl, trivial, rfl, rfl⟩
def m_s_l1In (a0 : Int) (a1 : Int) (a2 : Int) : Option (Bool) :=
 (if a0 ≥ a1 then
 some (decide (a0 ≤ a2))
 else
 some false)
theorem ok_s_l1In {a0 : Int} {a1 : Int} {a2 : Int} {r : Bool} (h : m_s_l1In a0 a1 a2 = some r) : ACall Try.prog 56 [.int .i64 a0, .int .i64 a1, .int .i64 a2] [] (fun res h => res = .bool r ∧ h = []) := by
 refine ACall.of_vc tabT_ok mixed Try.func56 rfl (by kernel_rfl) _ _ _ rfl (by kernel_rfl) ?_
 unfold m_s_l1In at h
 refine .direct ?_
 refine .direct ?_
 refine splitB.mk (fun hb1 => ?_) (fun hb1 => ?_)
 replace h := T_dec hb1 h
 refine splitB_t ?_
 refine splitB_t ?_
 refine splitB_t ?_
 obtain rfl := Option.some.inj h
 exact ⟨[], .bool (decide (a0 ≤ a2)), [], by decide, (show 0 ≤ 0 by decide), .bool_eq rfl, trivial, rfl, rfl⟩
 replace h := F_dec hb1 h
 refine splitB_f ?_
 refine splitB_f ?_
 refine splitB_f ?_
 obtain rfl := Option.some.inj h
 exact ⟨[], .bool false, [], by decide, (show 0 ≤ 0 by decide), .bool_eq rfl, trivial, rfl, rfl⟩
def m_s_l14Letter (a0 : Int) : Option (Bool) :=
 m_s_l1In (W64 (a0)) 97 122 >>= fun v1 =>
 (if v1 = true then
 some true
 else
 m_s_l1In (W64 (a0)) 65 90 >>= fun v4 =>
 (if v4 = true then
 some true
 else
 some (a0 == 95)))
theorem ok_s_l14Letter {a0 : Int} {r : Bool} (h : m_s_l14Letter a0 = some r) : ACall Try.prog 102 [.int .u8 a0] [] (fun res h => res = .bool r ∧ h = []) := by
 refine ACall.of_vc tabT_ok mixed Try.func102 rfl (by kernel_rfl) _ _ _ rfl (by kernel_rfl) ?_
 unfold m_s_l14Letter at h
 refine .direct ?_
 refine .direct ?_
 obtain ⟨v1, hv2, h⟩ := bind_some h
 refine ⟨_, ACall.pure0 (ok_s_l1In hv2) _ rfl (fun _ => rfl), ?_⟩
 rintro _ _ ⟨rfl, rfl⟩
 refine splitB.mk (fun hb3 => ?_) (fun hb3 => ?_)
 replace h := T_var hb3 h
 refine splitB_t ?_
 refine splitB_t ?_
 refine splitB_t ?_
 refine splitB_t ?_
 refine splitB_t ?_
 refine splitB_t ?_
 obtain rfl := Option.some.inj h
 exact ⟨[], .bool true, [], by decide, (show 0 ≤ 0 by decide), .bool_eq rfl, trivial, rfl, rfl⟩
 replace h := F_var hb3 h
 refine splitB_f ?_
 refine splitB_f ?_
 obtain ⟨v4, hv5, h⟩ := bind_some h
 refine ⟨_, ACall.pure0 (ok_s_l1In hv5) _ rfl (fun _ => rfl), ?_⟩
 rintro _ _ ⟨rfl, rfl⟩
 refine splitB_f ?_
 refine splitB.mk (fun hb6 => ?_) (fun hb6 => ?_)
 replace h := T_var hb6 h
 refine splitB_t ?_
 refine splitB_t ?_
 obtain rfl := Option.some.inj h
 exact ⟨[], .bool true, [], by decide, (show 0 ≤ 0 by decide), .bool_eq rfl, trivial, rfl, rfl⟩
 replace h := F_var hb6 h
 refine splitB_f ?_
 refine splitB_f ?_
 obtain rfl := Option.some.inj h
 exact ⟨[], .bool (a0 == 95), [], by decide, (show 0 ≤ 0 by decide), .bool_eq rfl, trivial, rfl, rfl⟩
def m_s_l14Digit (a0 : Int) : Option (Bool) :=
 m_s_l1In (W64 (a0)) 48 57 >>= fun v1 =>
 some v1
theorem ok_s_l14Digit {a0 : Int} {r : Bool} (h : m_s_l14Digit a0 = some r) : ACall Try.prog 103 [.int .u8 a0] [] (fun res h => res = .bool r ∧ h = []) := by
 refine ACall.of_vc tabT_ok mixed Try.func103 rfl (by kernel_rfl) _ _ _ rfl (by kernel_rfl) ?_
 unfold m_s_l14Digit at h
 refine .direct ?_
 refine .direct ?_
 obtain ⟨v1, hv2, h⟩ := bind_some h
 refine ⟨_, ACall.pure0 (ok_s_l1In hv2) _ rfl (fun _ => rfl), ?_⟩
 rintro _ _ ⟨rfl, rfl⟩
 obtain rfl := Option.some.inj h
 exact ⟨[], .bool v1, [], by decide, (show 0 ≤ 0 by decide), .bool_eq rfl, trivial, rfl, rfl⟩
def m_i_nameLength_L2 (a0 : Str) (y5 : Int) : Option (Int) :=
 (if y5 < (a0.length : Int) then
 sidx a0 y5 >>= fun c9 =>
 m_i_isLetter (c9.toNat : Int) >>= fun v11 =>
 (if v11 = true then
 m_i_nameLength_L2 a0 (W64 (y5 + 1))
 else
 sidx a0 y5 >>= fun c14 =>
 (if (c14.toNat : Int) = 95 then
 m_i_nameLength_L2 a0 (W64 (y5 + 1))
 else
 (if y5 > 0 then
 sidx a0 y5 >>= fun c18 =>
 m_i_isDigit (c18.toNat : Int) >>= fun v20 =>
 (if v20 = true then
 m_i_nameLength_L2 a0 (W64 (y5 + 1))
 else
 some y5)
 else
 some y5)))
 else
 some y5)
partial_fixpoint
def m_i_nameLength (a0 : Str) : Option (Int) :=
 (
 m_i_nameLength_L2 a0 0
 : Option (Int)) >>= fun y1 =>
 some y1
theorem ok_i_nameLength {a0 : Str} {r : Int} (h : m_i_nameLength a0 = some r) : ACall Try.prog 96 [.str a0] [] (fun res h => res = .int .i64 r ∧ h = []) := by
 refine ACall.of_vc tabT_ok mixed Try.func96 rfl (by kernel_rfl) _ _ _ rfl (by kernel_rfl) ?_
 unfold m_i_nameLength at h
 refine .direct ?_
 refine .direct ?_
 obtain ⟨o2, ho3, hk4⟩ := bind_some h
 replace h := ho3
 refine .cut (fun σ η => ∃ y1, y1 = o2 ∧ σ = [(3, .int .i64 y1)] ∧ η = []) ?_ ?_
 refine LoopAt.enter [(0, .str a0), (3, .int .i64 0)] [] ⟨[], by decide, (show 0 ≤ 0 by decide), ⟨.str_eq rfl, .int_eq rfl, trivial⟩, trivial⟩ ?_
 refine m_i_nameLength_L2.partial_correctness a0 (motive := fun y5 o23 => o2 = o23 → LoopAt _ _ [(0, .str a0), (3, .int .i64 y5)] []) ?_ 0 o2 h rfl
 intro F7 ih6 y5 o23 h hr24
 subst hr24
 refine LoopAt.round ?_
 refine .direct ?_
 refine .direct ?_
 refine splitB.mk (fun hb8 => ?_) (fun hb8 => ?_)
 replace h := T_dec hb8 h
 refine splitB_t ?_
 refine splitB_t ?_
 obtain ⟨c9, hx10, h⟩ := bind_some h
 refine ⟨sidx_bd hx10, c9, sidx_at hx10, ?_⟩
 refine splitB_t ?_
 obtain ⟨v11, hv12, h⟩ := bind_some h
 refine ⟨_, ACall.pure0 (ok_i_isLetter hv12) _ rfl (fun _ => rfl), ?_⟩
 rintro _ _ ⟨rfl, rfl⟩
 refine splitB_t ?_
 refine splitB.mk (fun hb13 => ?_) (fun hb13 => ?_)
 replace h := T_var hb13 h
 refine splitB_t ?_
 refine splitB_t ?_
 refine splitB_t ?_
 refine splitB_t ?_
 refine splitB_t ?_
 refine splitB_t ?_
 refine splitB_t ?_
 refine splitB_t ?_
 refine splitB_t ?_
 refine splitB_t ?_
 refine splitB_t ?_
 refine splitB_t ?_
 refine splitB_t ?_
 refine splitB_t ?_
 exact ⟨[(0, .str a0), (3, .int .i64 (W64 (y5 + 1)))], [], ⟨[], by decide, (show 0 ≤ 0 by decide), ⟨.str_eq rfl, .int_eq rfl, trivial⟩, trivial⟩, ih6 _ _ h rfl⟩
 replace h := F_var hb13 h
 refine splitB_f ?_
 refine splitB_f ?_
 obtain ⟨c14, hx15, h⟩ := bind_some h
 refine ⟨sidx_bd hx15, c14, sidx_at hx15, ?_⟩
 refine splitB_f ?_
 refine splitB_t ?_
 refine splitB_f ?_
 refine splitB_t ?_
 refine splitB.mk (fun hb16 => ?_) (fun hb16 => ?_)
 replace h := T_beq hb16 h
 refine splitB_t ?_
 refine splitB_t ?_
 refine splitB_t ?_
 refine splitB_t ?_
 refine splitB_t ?_
 refine splitB_t ?_
 refine splitB_t ?_
 exact ⟨[(0, .str a0), (3, .int .i64 (W64 (y5 + 1)))], [], ⟨[], by decide, (show 0 ≤ 0 by decide), ⟨.str_eq rfl, .int_eq rfl, trivial⟩, trivial⟩, ih6 _ _ h rfl⟩
 replace h := F_beq hb16 h
 refine splitB_f ?_
 refine splitB_f ?_
 refine splitB.mk (fun hb17 => ?_) (fun hb17 => ?_)
 replace h := T_dec hb17 h
 refine splitB_t ?_
 refine splitB_t ?_
 obtain ⟨c18, hx19, h⟩ := bind_some h
 refine ⟨sidx_bd hx19, c18, sidx_at hx19, ?_⟩
 refine splitB_t ?_
 obtain ⟨v20, hv21, h⟩ := bind_some h
 refine ⟨_, ACall.pure0 (ok_i_isDigit hv21) _ rfl (fun _ => rfl), ?_⟩
 rintro _ _ ⟨rfl, rfl⟩
 refine splitB_f ?_
 refine splitB_t ?_
 refine splitB_t ?_
 refine splitB_f ?_
 refine splitB_t ?_
 refine splitB.mk (fun hb22 => ?_) (fun hb22 => ?_)
 replace h := T_var hb22 h
 exact ⟨[(0, .str a0), (3, .int .i64 (W64 (y5 + 1)))], [], ⟨[], by decide, (show 0 ≤ 0 by decide), ⟨.str_eq rfl, .int_eq rfl, trivial⟩, trivial⟩, ih6 _ _ h rfl⟩
 replace h := F_var hb22 h
 exact ⟨[(3, .int .i64 y5)], [], ⟨[], by decide, (show 0 ≤ 0 by decide), ⟨.int_eq rfl, trivial⟩, trivial⟩, y5, Option.some.inj h, rfl, rfl⟩
 replace h := F_dec hb17 h
 refine splitB_f ?_
 refine splitB_f ?_
 refine splitB_f ?_
 refine splitB_f ?_
 refine splitB_f ?_
 refine splitB_t ?_
 refine splitB_f ?_
 refine splitB_t ?_
 refine splitB_f ?_
 exact ⟨[(3, .int .i64 y5)], [], ⟨[], by decide, (show 0 ≤ 0 by decide), ⟨.int_eq rfl, trivial⟩, trivial⟩, y5, Option.some.inj h, rfl, rfl⟩
 replace h := F_dec hb8 h
 refine splitB_f ?_
 refine splitB_f ?_
 refine splitB_f ?_
 refine splitB_f ?_
 refine splitB_f ?_
 refine splitB_f ?_
 refine splitB_f ?_
 refine splitB_f ?_
 refine splitB_f ?_
 exact ⟨[(3, .int .i64 y5)], [], ⟨[], by decide, (show 0 ≤ 0 by decide), ⟨.int_eq rfl, trivial⟩, trivial⟩, y5, Option.some.inj h, rfl, rfl⟩
 rintro _ _ ⟨y1, rfl, rfl, rfl⟩
 replace h := hk4
 refine .direct ?_
 obtain rfl := Option.some.inj h
 exact ⟨[], .int .i64 y1, [], by decide, (show 0 ≤ 0 by decide), .int_eq rfl, trivial, rfl, rfl⟩
def m_i_IsName (a0 : Str) : Option (Bool) :=
 (if (a0.length : Int) ≤ 20 then
 m_i_nameLength a0 >>= fun v2 =>
 (if v2 = (a0.length : Int) then
 some (!(a0 == ([] : Str)))
 else
 some false)
 else
 some false)
theorem ok_i_IsName {a0 : Str} {r : Bool} (h : m_i_IsName a0 = some r) : ACall Try.prog 88 [.str a0] [] (fun res h => res = .bool r ∧ h = []) := by
 refine ACall.of_vc tabT_ok mixed Try.func88 rfl (by kernel_rfl) _ _ _ rfl (by kernel_rfl) ?_
 unfold m_i_IsName at h
 refine .direct ?_
 refine .direct ?_
 refine splitB.mk (fun hb1 => ?_) (fun hb1 => ?_)
 replace h := T_dec hb1 h
 refine splitB_t ?_
 obtain ⟨v2, hv3, h⟩ := bind_some h
 refine ⟨_, ACall.pure0 (ok_i_nameLength hv3) _ rfl (fun _ => rfl), ?_⟩
 rintro _ _ ⟨rfl, rfl⟩
 refine splitB_t ?_
 refine splitB_t ?_
 refine splitB_t ?_
 refine splitB_t ?_
 refine splitB.mk (fun hb4 => ?_) (fun hb4 => ?_)
 replace h := T_beq hb4 h
 refine splitB_t ?_
 refine splitB_t ?_
 obtain rfl := Option.some.inj h
 exact ⟨[], .bool (!(a0 == ([] : Str))), [], by decide, (show 0 ≤ 0 by decide), .bool_eq rfl, trivial, rfl, rfl⟩
 replace h := F_beq hb4 h
 refine splitB_f ?_
 refine splitB_f ?_
 obtain rfl := Option.some.inj h
 exact ⟨[], .bool false, [], by decide, (show 0 ≤ 0 by decide), .bool_eq rfl, trivial, rfl, rfl⟩
 replace h := F_dec hb1 h
 refine splitB_f ?_
 refine splitB_f ?_
 refine splitB_f ?_
 refine splitB_f ?_
 refine splitB_f ?_
 refine splitB_f ?_
 refine splitB_f ?_
 refine splitB_f ?_
 obtain rfl := Option.some.inj h
 exact ⟨[], .bool false, [], by decide, (show 0 ≤ 0 by decide), .bool_eq rfl, trivial, rfl, rfl⟩
def m_i_IsReserved (a0 : Str) : Option (Bool) :=
 (if a0 = ([101, 99, 104, 111] : Str) then
 some true
 else
 (if a0 = ([105, 102] : Str) then
 some true
 else
 (if a0 = ([101, 108, 115, 101] : Str) then
 some true
 else
 (if a0 = ([119, 104, 105, 108, 101] : Str) then
 some true
 else
 (if a0 = ([102, 111, 114, 101, 97, 99, 104] : Str) then
 some true
 else
 (if a0 = ([97, 115] : Str) then
 some true
 else
 (if a0 = ([98, 114, 101, 97, 107] : Str) then
 some true
 else
 (if a0 = ([99, 111, 110, 116, 105, 110, 117, 101] : Str) then
 some true
 else
 (if a0 = ([114, 101, 116, 117, 114, 110] : Str) then
 some true
 else
 (if a0 = ([103, 108, 111, 98, 97, 108] : Str) then
 some true
 else
 (if a0 = ([117, 110, 115, 101, 116] : Str) then
 some true
 else
 (if a0 = ([116, 104, 114, 111, 119] : Str) then
 some true
 else
 (if a0 = ([116, 114, 121] : Str) then
 some true
 else
 (if a0 = ([99, 97, 116, 99, 104] : Str) then
 some true
 else
 (if a0 = ([102, 105, 110, 97, 108, 108, 121] : Str) then
 some true
 else
 (if a0 = ([121, 105, 101, 108, 100] : Str) then
 some true
 else
 (if a0 = ([105, 110, 99, 108, 117, 100, 101] : Str) then
 some true
 else
 (if a0 = ([102, 117, 110, 99, 116, 105, 111, 110] : Str) then
 some true
 else
 (if a0 = ([99, 108, 97, 115, 115] : Str) then
 some true
 else
 (if a0 = ([116, 114, 97, 105, 116] : Str) then
 some true
 else
 (if a0 = ([101, 120, 116, 101, 110, 100, 115] : Str) then
 some true
 else
 (if a0 = ([117, 115, 101] : Str) then
 some true
 else
 (if a0 = ([112, 114, 105, 118, 97, 116, 101] : Str) then
 some true
 else
 (if a0 = ([115, 116, 97, 116, 105, 99] : Str) then
 some true
 else
 (if a0 = ([110, 101, 119] : Str) then
 some true
 else
 (if a0 = ([116, 114, 117, 101] : Str) then
 some true
 else
 (if a0 = ([102, 97, 108, 115, 101] : Str) then
 some true
 else
 (if a0 = ([110, 117, 108, 108] : Str) then
 some true
 else
 some false))))))))))))))))))))))))))))
theorem ok_i_IsReserved {a0 : Str} {r : Bool} (h : m_i_IsReserved a0 = some r) : ACall Try.prog 89 [.str a0] [] (fun res h => res = .bool r ∧ h = []) := by
 refine ACall.of_vc tabT_ok mixed Try.func89 rfl (by kernel_rfl) _ _ _ rfl (by kernel_rfl) ?_
 unfold m_i_IsReserved at h
 refine .direct ?_
 refine .direct ?_
 refine .direct ?_
 refine .direct ?_
 refine .direct ?_
 refine splitB.mk (fun hb1 => ?_) (fun hb1 => ?_)
 replace h := T_beq hb1 h
 refine splitB_kt hb1 ?_
 refine .direct ?_
 obtain rfl := Option.some.inj h
 exact ⟨[], .bool true, [], by decide, (show 0 ≤ 0 by decide), .bool_eq rfl, trivial, rfl, rfl⟩
 replace h := F_beq hb1 h
 refine .direct ?_
 refine splitB.mk (fun hb2 => ?_) (fun hb2 => ?_)
 replace h := T_beq hb2 h
 refine splitB_kt hb2 ?_
 refine .direct ?_
 obtain rfl := Option.some.inj h
 exact ⟨[], .bool true, [], by decide, (show 0 ≤ 0 by decide), .bool_eq rfl, trivial, rfl, rfl⟩
 replace h := F_beq hb2 h
 refine .direct ?_
 refine splitB.mk (fun hb3 => ?_) (fun hb3 => ?_)
 replace h := T_beq hb3 h
 refine splitB_kt hb3 ?_
 refine .direct ?_
 obtain rfl := Option.some.inj h
 exact ⟨[], .bool true, [], by decide, (show 0 ≤ 0 by decide), .bool_eq rfl, trivial, rfl, rfl⟩
 replace h := F_beq hb3 h
 refine .direct ?_
 refine splitB.mk (fun hb4 => ?_) (fun hb4 => ?_)
 replace h := T_beq hb4 h
 refine splitB_kt hb4 ?_
 refine .direct ?_
 obtain rfl := Option.some.inj h
 exact ⟨[], .bool true, [], by decide, (show 0 ≤ 0 by decide), .bool_eq rfl, trivial, rfl, rfl⟩
 replace h := F_beq hb4 h
 refine .direct ?_
 refine splitB.mk (fun hb5 => ?_) (fun hb5 => ?_)
 replace h := T_beq hb5 h
 refine splitB_kt hb5 ?_
 refine .direct ?_
 obtain rfl := Option.some.inj h
 exact ⟨[], .bool true, [], by decide, (show 0 ≤ 0 by decide), .bool_eq rfl, trivial, rfl, rfl⟩
 replace h := F_beq hb5 h
 refine .direct ?_
 refine splitB.mk (fun hb6 => ?_) (fun hb6 => ?_)
 replace h := T_beq hb6 h
 refine splitB_kt hb6 ?_
 refine .direct ?_
 obtain rfl := Option.some.inj h
 exact ⟨[], .bool true, [], by decide, (show 0 ≤ 0 by decide), .bool_eq rfl, trivial, rfl, rfl⟩
 replace h := F_beq hb6 h
 refine .direct ?_
 refine splitB.mk (fun hb7 => ?_) (fun hb7 => ?_)
 replace h := T_beq hb7 h
 refine splitB_kt hb7 ?_
 refine .direct ?_
 obtain rfl := Option.some.inj h
 exact ⟨[], .bool true, [], by decide, (show 0 ≤ 0 by decide), .bool_eq rfl, trivial, rfl, rfl⟩
 replace h := F_beq hb7 h
 refine .direct ?_
 refine splitB.mk (fun hb8 => ?_) (fun hb8 => ?_)
 replace h := T_beq hb8 h
 refine splitB_kt hb8 ?_
 refine .direct ?_
 obtain rfl := Option.some.inj h
 exact ⟨[], .bool true, [], by decide, (show 0 ≤ 0 by decide), .bool_eq rfl, trivial, rfl, rfl⟩
 replace h := F_beq hb8 h
 refine .direct ?_
 refine splitB.mk (fun hb9 => ?_) (fun hb9 => ?_)
 replace h := T_beq hb9 h
 refine splitB_kt hb9 ?_
 refine .direct ?_
 obtain rfl := Option.some.inj h
 exact ⟨[], .bool true, [], by decide, (show 0 ≤ 0 by decide), .bool_eq rfl, trivial, rfl, rfl⟩
 replace h := F_beq hb9 h
 refine .direct ?_
 refine splitB.mk (fun hb10 => ?_) (fun hb10 => ?_)
 replace h := T_beq hb10 h
 refine splitB_kt hb10 ?_
 refine .direct ?_
 obtain rfl := Option.some.inj h
 exact ⟨[], .bool true, [], by decide, (show 0 ≤ 0 by decide), .bool_eq rfl, trivial, rfl, rfl⟩
 replace h := F_beq hb10 h
 refine .direct ?_
 refine splitB.mk (fun hb11 => ?_) (fun hb11 => ?_)
 replace h := T_beq hb11 h
 refine splitB_kt hb11 ?_
 refine .direct ?_
 obtain rfl := Option.some.inj h
 exact ⟨[], .bool true, [], by decide, (show 0 ≤ 0 by decide), .bool_eq rfl, trivial, rfl, rfl⟩
 replace h := F_beq hb11 h
 refine .direct ?_
 refine splitB.mk (fun hb12 => ?_) (fun hb12 => ?_)
 replace h := T_beq hb12 h
 refine splitB_kt hb12 ?_
 refine .direct ?_
 obtain rfl := Option.some.inj h
 exact ⟨[], .bool true, [], by decide, (show 0 ≤ 0 by decide), .bool_eq rfl, trivial, rfl, rfl⟩
 replace h := F_beq hb12 h
 refine .direct ?_
 refine splitB.mk (fun hb13 => ?_) (fun hb13 => ?_)
 replace h := T_beq hb13 h
 refine splitB_kt hb13 ?_
 refine .direct ?_
 obtain rfl := Option.some.inj h
 exact ⟨[], .bool true, [], by decide, (show 0 ≤ 0 by decide), .bool_eq rfl, trivial, rfl, rfl⟩
 replace h := F_beq hb13 h
 refine .direct ?_
 refine splitB.mk (fun hb14 => ?_) (fun hb14 => ?_)
 replace h := T_beq hb14 h
 refine splitB_kt hb14 ?_
 refine .direct ?_
 obtain rfl := Option.some.inj h
 exact ⟨[], .bool true, [], by decide, (show 0 ≤ 0 by decide), .bool_eq rfl, trivial, rfl, rfl⟩
 replace h := F_beq hb14 h
 refine .direct ?_
 refine splitB.mk (fun hb15 => ?_) (fun hb15 => ?_)
 replace h := T_beq hb15 h
 refine splitB_kt hb15 ?_
 refine .direct ?_
 obtain rfl := Option.some.inj h
 exact ⟨[], .bool true, [], by decide, (show 0 ≤ 0 by decide), .bool_eq rfl, trivial, rfl, rfl⟩
 replace h := F_beq hb15 h
 refine .direct ?_
 refine splitB.mk (fun hb16 => ?_) (fun hb16 => ?_)
 replace h := T_beq hb16 h
 refine splitB_kt hb16 ?_
 refine .direct ?_
 obtain rfl := Option.some.inj h
 exact ⟨[], .bool true, [], by decide, (show 0 ≤ 0 by decide), .bool_eq rfl, trivial, rfl, rfl⟩
 replace h := F_beq hb16 h
 refine .direct ?_
 refine splitB.mk (fun hb17 => ?_) (fun hb17 => ?_)
 replace h := T_beq hb17 h
 refine splitB_kt hb17 ?_
 refine .direct ?_
 obtain rfl := Option.some.inj h
 exact ⟨[], .bool true, [], by decide, (show 0 ≤ 0 by decide), .bool_eq rfl, trivial, rfl, rfl⟩
 replace h := F_beq hb17 h
 refine .direct ?_
 refine splitB.mk (fun hb18 => ?_) (fun hb18 => ?_)
 replace h := T_beq hb18 h
 refine splitB_kt hb18 ?_
 refine .direct ?_
 obtain rfl := Option.some.inj h
 exact ⟨[], .bool true, [], by decide, (show 0 ≤ 0 by decide), .bool_eq rfl, trivial, rfl, rfl⟩
 replace h := F_beq hb18 h
 refine .direct ?_
 refine splitB.mk (fun hb19 => ?_) (fun hb19 => ?_)
 replace h := T_beq hb19 h
 refine splitB_kt hb19 ?_
 refine .direct ?_
 obtain rfl := Option.some.inj h
 exact ⟨[], .bool true, [], by decide, (show 0 ≤ 0 by decide), .bool_eq rfl, trivial, rfl, rfl⟩
 replace h := F_beq hb19 h
 refine .direct ?_
 refine splitB.mk (fun hb20 => ?_) (fun hb20 => ?_)
 replace h := T_beq hb20 h
 refine splitB_kt hb20 ?_
 refine .direct ?_
 obtain rfl := Option.some.inj h
 exact ⟨[], .bool true, [], by decide, (show 0 ≤ 0 by decide), .bool_eq rfl, trivial, rfl, rfl⟩
 replace h := F_beq hb20 h
 refine .direct ?_
 refine splitB.mk (fun hb21 => ?_) (fun hb21 => ?_)
 replace h := T_beq hb21 h
 refine splitB_kt hb21 ?_
 refine .direct ?_
 obtain rfl := Option.some.inj h
 exact ⟨[], .bool true, [], by decide, (show 0 ≤ 0 by decide), .bool_eq rfl, trivial, rfl, rfl⟩
 replace h := F_beq hb21 h
 refine .direct ?_
 refine splitB.mk (fun hb22 => ?_) (fun hb22 => ?_)
 replace h := T_beq hb22 h
 refine splitB_kt hb22 ?_
 refine .direct ?_
 obtain rfl := Option.some.inj h
 exact ⟨[], .bool true, [], by decide, (show 0 ≤ 0 by decide), .bool_eq rfl, trivial, rfl, rfl⟩
 replace h := F_beq hb22 h
 refine .direct ?_
 refine splitB.mk (fun hb23 => ?_) (fun hb23 => ?_)
 replace h := T_beq hb23 h
 refine splitB_kt hb23 ?_
 refine .direct ?_
 obtain rfl := Option.some.inj h
 exact ⟨[], .bool true, [], by decide, (show 0 ≤ 0 by decide), .bool_eq rfl, trivial, rfl, rfl⟩
 replace h := F_beq hb23 h
 refine .direct ?_
 refine splitB.mk (fun hb24 => ?_) (fun hb24 => ?_)
 replace h := T_beq hb24 h
 refine splitB_kt hb24 ?_
 refine .direct ?_
 obtain rfl := Option.some.inj h
 exact ⟨[], .bool true, [], by decide, (show 0 ≤ 0 by decide), .bool_eq rfl, trivial, rfl, rfl⟩
 replace h := F_beq hb24 h
 refine .direct ?_
 refine splitB.mk (fun hb25 => ?_) (fun hb25 => ?_)
 replace h := T_beq hb25 h
 refine splitB_kt hb25 ?_
 refine .direct ?_
 obtain rfl := Option.some.inj h
 exact ⟨[], .bool true, [], by decide, (show 0 ≤ 0 by decide), .bool_eq rfl, trivial, rfl, rfl⟩
 replace h := F_beq hb25 h
 refine .direct ?_
 refine splitB.mk (fun hb26 => ?_) (fun hb26 => ?_)
 replace h := T_beq hb26 h
 refine splitB_kt hb26 ?_
 refine .direct ?_
 obtain rfl := Option.some.inj h
 exact ⟨[], .bool true, [], by decide, (show 0 ≤ 0 by decide), .bool_eq rfl, trivial, rfl, rfl⟩
 replace h := F_beq hb26 h
 refine .direct ?_
 refine splitB.mk (fun hb27 => ?_) (fun hb27 => ?_)
 replace h := T_beq hb27 h
 refine splitB_kt hb27 ?_
 refine .direct ?_
 obtain rfl := Option.some.inj h
 exact ⟨[], .bool true, [], by decide, (show 0 ≤ 0 by decide), .bool_eq rfl, trivial, rfl, rfl⟩
 replace h := F_beq hb27 h
 refine splitB.mk (fun hb28 => ?_) (fun hb28 => ?_)
 replace h := T_beq hb28 h
 refine .direct ?_
 obtain rfl := Option.some.inj h
 exact ⟨[], .bool true, [], by decide, (show 0 ≤ 0 by decide), .bool_eq rfl, trivial, rfl, rfl⟩
 replace h := F_beq hb28 h
 refine .direct ?_
 obtain rfl := Option.some.inj h
 exact ⟨[], .bool false, [], by decide, (show 0 ≤ 0 by decide), .bool_eq rfl, trivial, rfl, rfl⟩
def m_i_goodName (a0 : Str) : Option (Bool) :=
 m_i_IsName a0 >>= fun v1 =>
 (if v1 = true then
 m_i_IsReserved a0 >>= fun v4 =>
 some (!v4)
 else
 some false)
theorem ok_i_goodName {a0 : Str} {r : Bool} (h : m_i_goodName a0 = some r) : ACall Try.prog 67 [.str a0] [] (fun res h => res = .bool r ∧ h = []) := by
 refine ACall.of_vc tabT_ok mixed Try.func67 rfl (by kernel_rfl) _ _ _ rfl (by kernel_rfl) ?_
 unfold m_i_goodName at h
 refine .direct ?_
 refine .direct ?_
 obtain ⟨v1, hv2, h⟩ := bind_some h
 refine ⟨_, ACall.pure0 (ok_i_IsName hv2) _ rfl (fun _ => rfl), ?_⟩
 rintro _ _ ⟨rfl, rfl⟩
 refine splitB.mk (fun hb3 => ?_) (fun hb3 => ?_)
 replace h := T_var hb3 h
 refine splitB_t ?_
 obtain ⟨v4, hv5, h⟩ := bind_some h
 refine ⟨_, ACall.pure0 (ok_i_IsReserved hv5) _ rfl (fun _ => rfl), ?_⟩
 rintro _ _ ⟨rfl, rfl⟩
 refine splitB_t ?_
 refine splitB_t ?_
 obtain rfl := Option.some.inj h
 exact ⟨[], .bool (!v4), [], by decide, (show 0 ≤ 0 by decide), .bool_eq rfl, trivial, rfl, rfl⟩
 replace h := F_var hb3 h
 refine splitB_f ?_
 refine splitB_f ?_
 refine splitB_f ?_
 obtain rfl := Option.some.inj h
 exact ⟨[], .bool false, [], by decide, (show 0 ≤ 0 by decide), .bool_eq rfl, trivial, rfl, rfl⟩
def m_s_l14Name_L2 (a0 : Str) (a1 : Int) (y5 : Int) : Option (Int) :=
 (if y5 < (a0.length : Int) then
 sidx a0 y5 >>= fun c9 =>
 m_s_l14Letter (c9.toNat : Int) >>= fun v11 =>
 (if v11 = true then
 m_s_l14Name_L2 a0 a1 (W64 (y5 + 1))
 else
 (if y5 > a1 then
 sidx a0 y5 >>= fun c15 =>
 m_s_l14Digit (c15.toNat : Int) >>= fun v17 =>
 (if v17 = true then
 m_s_l14Name_L2 a0 a1 (W64 (y5 + 1))
 else
 some y5)
 else
 some y5))
 else
 some y5)
partial_fixpoint
def m_s_l14Name (a0 : Str) (a1 : Int) : Option (Int) :=
 (
 m_s_l14Name_L2 a0 a1 a1
 : Option (Int)) >>= fun y1 =>
 some y1
theorem ok_s_l14Name {a0 : Str} {a1 : Int} {r : Int} (h : m_s_l14Name a0 a1 = some r) : ACall Try.prog 99 [.str a0, .int .i64 a1] [] (fun res h => res = .int .i64 r ∧ h = []) := by
 refine ACall.of_vc tabT_ok mixed Try.func99 rfl (by kernel_rfl) _ _ _ rfl (by kernel_rfl) ?_
 unfold m_s_l14Name at h
 refine .direct ?_
 refine .direct ?_
 obtain ⟨o2, ho3, hk4⟩ := bind_some h
 replace h := ho3
 refine .cut (fun σ η => ∃ y1, y1 = o2 ∧ σ = [(5, .int .i64 y1)] ∧ η = []) ?_ ?_
 refine LoopAt.enter [(0, .str a0), (1, .int .i64 a1), (5, .int .i64 a1)] [] ⟨[], by decide, (show 0 ≤ 0 by decide), ⟨.str_eq rfl, .int_eq rfl, .int_eq rfl, trivial⟩, trivial⟩ ?_
 refine m_s_l14Name_L2.partial_correctness a0 a1 (motive := fun y5 o20 => o2 = o20 → LoopAt _ _ [(0, .str a0), (1, .int .i64 a1), (5, .int .i64 y5)] []) ?_ a1 o2 h rfl
 intro F7 ih6 y5 o20 h hr21
 subst hr21
 refine LoopAt.round ?_
 refine .direct ?_
 refine .direct ?_
 refine splitB.mk (fun hb8 => ?_) (fun hb8 => ?_)
 replace h := T_dec hb8 h
 refine splitB_t ?_
 refine splitB_t ?_
 obtain ⟨c9, hx10, h⟩ := bind_some h
 refine ⟨sidx_bd hx10, c9, sidx_at hx10, ?_⟩
 refine splitB_t ?_
 obtain ⟨v11, hv12, h⟩ := bind_some h
 refine ⟨_, ACall.pure0 (ok_s_l14Letter hv12) _ rfl (fun _ => rfl), ?_⟩
 rintro _ _ ⟨rfl, rfl⟩
 refine splitB_t ?_
 refine splitB.mk (fun hb13 => ?_) (fun hb13 => ?_)
 replace h := T_var hb13 h
 refine splitB_t ?_
 refine splitB_t ?_
 refine splitB_t ?_
 refine splitB_t ?_
 refine splitB_t ?_
 refine splitB_t ?_
 refine splitB_t ?_
 refine splitB_t ?_
 exact ⟨[(0, .str a0), (1, .int .i64 a1), (5, .int .i64 (W64 (y5 + 1)))], [], ⟨[], by decide, (show 0 ≤ 0 by decide), ⟨.str_eq rfl, .int_eq rfl, .int_eq rfl, trivial⟩, trivial⟩, ih6 _ _ h rfl⟩
 replace h := F_var hb13 h
 refine splitB_f ?_
 refine splitB_f ?_
 refine splitB_f ?_
 refine splitB.mk (fun hb14 => ?_) (fun hb14 => ?_)
 replace h := T_dec hb14 h
 refine splitB_t ?_
 refine splitB_t ?_
 obtain ⟨c15, hx16, h⟩ := bind_some h
 refine ⟨sidx_bd hx16, c15, sidx_at hx16, ?_⟩
 refine splitB_t ?_
 obtain ⟨v17, hv18, h⟩ := bind_some h
 refine ⟨_, ACall.pure0 (ok_s_l14Digit hv18) _ rfl (fun _ => rfl), ?_⟩
 rintro _ _ ⟨rfl, rfl⟩
 refine splitB_f ?_
 refine splitB_t ?_
 refine splitB_t ?_
 refine splitB_f ?_
 refine splitB_t ?_
 refine splitB.mk (fun hb19 => ?_) (fun hb19 => ?_)
 replace h := T_var hb19 h
 exact ⟨[(0, .str a0), (1, .int .i64 a1), (5, .int .i64 (W64 (y5 + 1)))], [], ⟨[], by decide, (show 0 ≤ 0 by decide), ⟨.str_eq rfl, .int_eq rfl, .int_eq rfl, trivial⟩, trivial⟩, ih6 _ _ h rfl⟩
 replace h := F_var hb19 h
 exact ⟨[(5, .int .i64 y5)], [], ⟨[], by decide, (show 0 ≤ 0 by decide), ⟨.int_eq rfl, trivial⟩, trivial⟩, y5, Option.some.inj h, rfl, rfl⟩
 replace h := F_dec hb14 h
 refine splitB_f ?_
 refine splitB_f ?_
 refine splitB_f ?_
 refine splitB_f ?_
 refine splitB_f ?_
 refine splitB_t ?_
 refine splitB_f ?_
 refine splitB_t ?_
 refine splitB_f ?_
 exact ⟨[(5, .int .i64 y5)], [], ⟨[], by decide, (show 0 ≤ 0 by decide), ⟨.int_eq rfl, trivial⟩, trivial⟩, y5, Option.some.inj h, rfl, rfl⟩
 replace h := F_dec hb8 h
 refine splitB_f ?_
 refine splitB_f ?_
 refine splitB_f ?_
 refine splitB_f ?_
 refine splitB_f ?_
 refine splitB_f ?_
 refine splitB_f ?_
 exact ⟨[(5, .int .i64 y5)], [], ⟨[], by decide, (show 0 ≤ 0 by decide), ⟨.int_eq rfl, trivial⟩, trivial⟩, y5, Option.some.inj h, rfl, rfl⟩
 rintro _ _ ⟨y1, rfl, rfl, rfl⟩
 replace h := hk4
 refine .direct ?_
 obtain rfl := Option.some.inj h
 exact ⟨[], .int .i64 y1, [], by decide, (show 0 ≤ 0 by decide), .int_eq rfl, trivial, rfl, rfl⟩
def m_s_IsName (a0 : Str) : Option (Bool) :=
 (if (a0.length : Int) ≥ 1 then
 (if (a0.length : Int) ≤ 20 then
 m_s_l14Name a0 0 >>= fun v3 =>
 some (v3 == (a0.length : Int))
 else
 some false)
 else
 some false)
theorem ok_s_IsName {a0 : Str} {r : Bool} (h : m_s_IsName a0 = some r) : ACall Try.prog 94 [.str a0] [] (fun res h => res = .bool r ∧ h = []) := by
 refine ACall.of_vc tabT_ok mixed Try.func94 rfl (by kernel_rfl) _ _ _ rfl (by kernel_rfl) ?_
 unfold m_s_IsName at h
 refine .direct ?_
 refine .direct ?_
 refine splitB.mk (fun hb1 => ?_) (fun hb1 => ?_)
 replace h := T_dec hb1 h
 refine splitB_t ?_
 refine splitB_t ?_
 refine splitB_t ?_
 refine splitB.mk (fun hb2 => ?_) (fun hb2 => ?_)
 replace h := T_dec hb2 h
 refine splitB_t ?_
 obtain ⟨v3, hv4, h⟩ := bind_some h
 refine ⟨_, ACall.pure0 (ok_s_l14Name hv4) _ rfl (fun _ => rfl), ?_⟩
 rintro _ _ ⟨rfl, rfl⟩
 refine splitB_t ?_
 refine splitB_t ?_
 refine splitB_t ?_
 refine splitB_t ?_
 obtain rfl := Option.some.inj h
 exact ⟨[], .bool (v3 == (a0.length : Int)), [], by decide, (show 0 ≤ 0 by decide), .bool_eq rfl, trivial, rfl, rfl⟩
 replace h := F_dec hb2 h
 refine splitB_f ?_
 refine splitB_f ?_
 refine splitB_f ?_
 refine splitB_f ?_
 refine splitB_f ?_
 obtain rfl := Option.some.inj h
 exact ⟨[], .bool false, [], by decide, (show 0 ≤ 0 by decide), .bool_eq rfl, trivial, rfl, rfl⟩
 replace h := F_dec hb1 h
 refine splitB_f ?_
 refine splitB_f ?_
 refine splitB_f ?_
 refine splitB_f ?_
 refine splitB_f ?_
 refine splitB_f ?_
 refine splitB_f ?_
 refine splitB_f ?_
 refine splitB_f ?_
 obtain rfl := Option.some.inj h
 exact ⟨[], .bool false, [], by decide, (show 0 ≤ 0 by decide), .bool_eq rfl, trivial, rfl, rfl⟩
def m_s_IsReserved_L2 (a0 : Str) (y4 : Int) : Option ((Unit) ⊕ Bool) :=
 (if y4 < (([[101, 99, 104, 111], [105, 102], [101, 108, 115, 101], [119, 104, 105, 108, 101], [102, 111, 114, 101, 97, 99, 104], [97, 115], [98, 114, 101, 97, 107], [99, 111, 110, 116, 105, 110, 117, 101], [114, 101, 116, 117, 114, 110], [103, 108, 111, 98, 97, 108], [117, 110, 115, 101, 116], [116, 104, 114, 111, 119], [116, 114, 121], [99, 97, 116, 99, 104], [102, 105, 110, 97, 108, 108, 121], [121, 105, 101, 108, 100], [105, 110, 99, 108, 117, 100, 101], [102, 117, 110, 99, 116, 105, 111, 110], [99, 108, 97, 115, 115], [116, 114, 97, 105, 116], [101, 120, 116, 101, 110, 100, 115], [117, 115, 101], [112, 114, 105, 118, 97, 116, 101], [115, 116, 97, 116, 105, 99], [110, 101, 119], [116, 114, 117, 101], [102, 97, 108, 115, 101], [110, 117, 108, 108]] : List Str).length : Int) then
 idx ([[101, 99, 104, 111], [105, 102], [101, 108, 115, 101], [119, 104, 105, 108, 101], [102, 111, 114, 101, 97, 99, 104], [97, 115], [98, 114, 101, 97, 107], [99, 111, 110, 116, 105, 110, 117, 101], [114, 101, 116, 117, 114, 110], [103, 108, 111, 98, 97, 108], [117, 110, 115, 101, 116], [116, 104, 114, 111, 119], [116, 114, 121], [99, 97, 116, 99, 104], [102, 105, 110, 97, 108, 108, 121], [121, 105, 101, 108, 100], [105, 110, 99, 108, 117, 100, 101], [102, 117, 110, 99, 116, 105, 111, 110], [99, 108, 97, 115, 115], [116, 114, 97, 105, 116], [101, 120, 116, 101, 110, 100, 115], [117, 115, 101], [112, 114, 105, 118, 97, 116, 101], [115, 116, 97, 116, 105, 99], [110, 101, 119], [116, 114, 117, 101], [102, 97, 108, 115, 101], [110, 117, 108, 108]] : List Str) y4 >>= fun x8 =>
 (if x8 = a0 then
 some (.inr true)
 else
 m_s_IsReserved_L2 a0 (W64 (y4 + 1)))
 else
 some (.inl ()))
partial_fixpoint
def m_s_IsReserved (a0 : Str) : Option (Bool) :=
 ((
 m_s_IsReserved_L2 a0 0
 : Option ((Unit) ⊕ Bool)) >>= fun o1 => match o1 with
 | .inr r => some r
 | .inl _ =>
 some false
 )
theorem ok_s_IsReserved {a0 : Str} {r : Bool} (h : m_s_IsReserved a0 = some r) : ACall Try.prog 95 [.str a0] [] (fun res h => res = .bool r ∧ h = []) := by
 refine ACall.of_vc tabT_ok mixed Try.func95 rfl (by kernel_rfl) _ _ _ rfl (by kernel_rfl) ?_
 unfold m_s_IsReserved at h
 refine .direct ?_
 refine .direct ?_
 refine ⟨row cS ([[101, 99, 104, 111], [105, 102], [101, 108, 115, 101], [119, 104, 105, 108, 101], [102, 111, 114, 101, 97, 99, 104], [97, 115], [98, 114, 101, 97, 107], [99, 111, 110, 116, 105, 110, 117, 101], [114, 101, 116, 117, 114, 110], [103, 108, 111, 98, 97, 108], [117, 110, 115, 101, 116], [116, 104, 114, 111, 119], [116, 114, 121], [99, 97, 116, 99, 104], [102, 105, 110, 97, 108, 108, 121], [121, 105, 101, 108, 100], [105, 110, 99, 108, 117, 100, 101], [102, 117, 110, 99, 116, 105, 111, 110], [99, 108, 97, 115, 115], [116, 114, 97, 105, 116], [101, 120, 116, 101, 110, 100, 115], [117, 115, 101], [112, 114, 105, 118, 97, 116, 101], [115, 116, 97, 116, 105, 99], [110, 101, 119], [116, 114, 117, 101], [102, 97, 108, 115, 101], [110, 117, 108, 108]] : List Str), row_lit cS ([[101, 99, 104, 111], [105, 102], [101, 108, 115, 101], [119, 104, 105, 108, 101], [102, 111, 114, 101, 97, 99, 104], [97, 115], [98, 114, 101, 97, 107], [99, 111, 110, 116, 105, 110, 117, 101], [114, 101, 116, 117, 114, 110], [103, 108, 111, 98, 97, 108], [117, 110, 115, 101, 116], [116, 104, 114, 111, 119], [116, 114, 121], [99, 97, 116, 99, 104], [102, 105, 110, 97, 108, 108, 121], [121, 105, 101, 108, 100], [105, 110, 99, 108, 117, 100, 101], [102, 117, 110, 99, 116, 105, 111, 110], [99, 108, 97, 115, 115], [116, 114, 97, 105, 116], [101, 120, 116, 101, 110, 100, 115], [117, 115, 101], [112, 114, 105, 118, 97, 116, 101], [115, 116, 97, 116, 105, 99], [110, 101, 119], [116, 114, 117, 101], [102, 97, 108, 115, 101], [110, 117, 108, 108]] : List Str) rfl (cll_refl rfl), ?_⟩
 obtain ⟨o1, ho2, hk3⟩ := bind_some h
 replace h := ho2
 refine .cut (fun σ η => .inl () = o1 ∧ σ = [] ∧ η = []) ?_ ?_
 refine .direct ?_
 refine LoopAt.enter [(0, .str a0), (3, .own 0 0 0 ([[101, 99, 104, 111], [105, 102], [101, 108, 115, 101], [119, 104, 105, 108, 101], [102, 111, 114, 101, 97, 99, 104], [97, 115], [98, 114, 101, 97, 107], [99, 111, 110, 116, 105, 110, 117, 101], [114, 101, 116, 117, 114, 110], [103, 108, 111, 98, 97, 108], [117, 110, 115, 101, 116], [116, 104, 114, 111, 119], [116, 114, 121], [99, 97, 116, 99, 104], [102, 105, 110, 97, 108, 108, 121], [121, 105, 101, 108, 100], [105, 110, 99, 108, 117, 100, 101], [102, 117, 110, 99, 116, 105, 111, 110], [99, 108, 97, 115, 115], [116, 114, 97, 105, 116], [101, 120, 116, 101, 110, 100, 115], [117, 115, 101], [112, 114, 105, 118, 97, 116, 101], [115, 116, 97, 116, 105, 99], [110, 101, 119], [116, 114, 117, 101], [102, 97, 108, 115, 101], [110, 117, 108, 108]] : List Str).length), (4, .int .i64 0)] [.row 0 1 ([[101, 99, 104, 111], [105, 102], [101, 108, 115, 101], [119, 104, 105, 108, 101], [102, 111, 114, 101, 97, 99, 104], [97, 115], [98, 114, 101, 97, 107], [99, 111, 110, 116, 105, 110, 117, 101], [114, 101, 116, 117, 114, 110], [103, 108, 111, 98, 97, 108], [117, 110, 115, 101, 116], [116, 104, 114, 111, 119], [116, 114, 121], [99, 97, 116, 99, 104], [102, 105, 110, 97, 108, 108, 121], [121, 105, 101, 108, 100], [105, 110, 99, 108, 117, 100, 101], [102, 117, 110, 99, 116, 105, 111, 110], [99, 108, 97, 115, 115], [116, 114, 97, 105, 116], [101, 120, 116, 101, 110, 100, 115], [117, 115, 101], [112, 114, 105, 118, 97, 116, 101], [115, 116, 97, 116, 105, 99], [110, 101, 119], [116, 114, 117, 101], [102, 97, 108, 115, 101], [110, 117, 108, 108]] : List Str).length 9 (row cS ([[101, 99, 104, 111], [105, 102], [101, 108, 115, 101], [119, 104, 105, 108, 101], [102, 111, 114, 101, 97, 99, 104], [97, 115], [98, 114, 101, 97, 107], [99, 111, 110, 116, 105, 110, 117, 101], [114, 101, 116, 117, 114, 110], [103, 108, 111, 98, 97, 108], [117, 110, 115, 101, 116], [116, 104, 114, 111, 119], [116, 114, 121], [99, 97, 116, 99, 104], [102, 105, 110, 97, 108, 108, 121], [121, 105, 101, 108, 100], [105, 110, 99, 108, 117, 100, 101], [102, 117, 110, 99, 116, 105, 111, 110], [99, 108, 97, 115, 115], [116, 114, 97, 105, 116], [101, 120, 116, 101, 110, 100, 115], [117, 115, 101], [112, 114, 105, 118, 97, 116, 101], [115, 116, 97, 116, 105, 99], [110, 101, 119], [116, 114, 117, 101], [102, 97, 108, 115, 101], [110, 117, 108, 108]] : List Str))] ⟨[0], by decide, (show 0 ≤ 1 by decide), ⟨.str_eq rfl, .own_eq rfl ⟨_, _, _, _, rfl⟩ ⟨_, _, _, _, rfl, Nat.le_of_eq (Nat.zero_add _)⟩ rfl rfl, .int_eq rfl, trivial⟩, ⟨⟨fun h0 => absurd (show 0 < 0 from h0) (by decide), rfl, .inl rfl, rfl, fz_row cS_pure⟩, trivial⟩⟩ ?_
 refine m_s_IsReserved_L2.partial_correctness a0 (motive := fun y4 o11 => o1 = o11 → LoopAt _ _ [(0, .str a0), (3, .own 0 0 0 ([[101, 99, 104, 111], [105, 102], [101, 108, 115, 101], [119, 104, 105, 108, 101], [102, 111, 114, 101, 97, 99, 104], [97, 115], [98, 114, 101, 97, 107], [99, 111, 110, 116, 105, 110, 117, 101], [114, 101, 116, 117, 114, 110], [103, 108, 111, 98, 97, 108], [117, 110, 115, 101, 116], [116, 104, 114, 111, 119], [116, 114, 121], [99, 97, 116, 99, 104], [102, 105, 110, 97, 108, 108, 121], [121, 105, 101, 108, 100], [105, 110, 99, 108, 117, 100, 101], [102, 117, 110, 99, 116, 105, 111, 110], [99, 108, 97, 115, 115], [116, 114, 97, 105, 116], [101, 120, 116, 101, 110, 100, 115], [117, 115, 101], [112, 114, 105, 118, 97, 116, 101], [115, 116, 97, 116, 105, 99], [110, 101, 119], [116, 114, 117, 101], [102, 97, 108, 115, 101], [110, 117, 108, 108]] : List Str).length), (4, .int .i64 y4)] [.row 0 1 ([[101, 99, 104, 111], [105, 102], [101, 108, 115, 101], [119, 104, 105, 108, 101], [102, 111, 114, 101, 97, 99, 104], [97, 115], [98, 114, 101, 97, 107], [99, 111, 110, 116, 105, 110, 117, 101], [114, 101, 116, 117, 114, 110], [103, 108, 111, 98, 97, 108], [117, 110, 115, 101, 116], [116, 104, 114, 111, 119], [116, 114, 121], [99, 97, 116, 99, 104], [102, 105, 110, 97, 108, 108, 121], [121, 105, 101, 108, 100], [105, 110, 99, 108, 117, 100, 101], [102, 117, 110, 99, 116, 105, 111, 110], [99, 108, 97, 115, 115], [116, 114, 97, 105, 116], [101, 120, 116, 101, 110, 100, 115], [117, 115, 101], [112, 114, 105, 118, 97, 116, 101], [115, 116, 97, 116, 105, 99], [110, 101, 119], [116, 114, 117, 101], [102, 97, 108, 115, 101], [110, 117, 108, 108]] : List Str).length 9 (row cS ([[101, 99, 104, 111], [105, 102], [101, 108, 115, 101], [119, 104, 105, 108, 101], [102, 111, 114, 101, 97, 99, 104], [97, 115], [98, 114, 101, 97, 107], [99, 111, 110, 116, 105, 110, 117, 101], [114, 101, 116, 117, 114, 110], [103, 108, 111, 98, 97, 108], [117, 110, 115, 101, 116], [116, 104, 114, 111, 119], [116, 114, 121], [99, 97, 116, 99, 104], [102, 105, 110, 97, 108, 108, 121], [121, 105, 101, 108, 100], [105, 110, 99, 108, 117, 100, 101], [102, 117, 110, 99, 116, 105, 111, 110], [99, 108, 97, 115, 115], [116, 114, 97, 105, 116], [101, 120, 116, 101, 110, 100, 115], [117, 115, 101], [112, 114, 105, 118, 97, 116, 101], [115, 116, 97, 116, 105, 99], [110, 101, 119], [116, 114, 117, 101], [102, 97, 108, 115, 101], [110, 117, 108, 108]] : List Str))]) ?_ 0 o1 h rfl
 intro F6 ih5 y4 o11 h hr12
 subst hr12
 refine LoopAt.round ?_
 refine .direct ?_
 refine .direct ?_
 refine ⟨rfl, ?_⟩
 refine splitB.mk (fun hb7 => ?_) (fun hb7 => ?_)
 replace h := T_dec hb7 h
 refine .direct ?_
 refine .direct ?_
 obtain ⟨x8, hx9, h⟩ := bind_some h
 refine ⟨rfl, idx_bd hx9, _, Nat.zero_add _, ?_⟩
 refine ⟨rfl, _, ((idx_row hx9).trans rfl), ?_⟩
 refine splitB.mk (fun hb10 => ?_) (fun hb10 => ?_)
 replace h := T_beq hb10 h
 refine .direct ?_
 obtain rfl := Option.some.inj h
 replace h := hk3
 obtain rfl := Option.some.inj h
 exact ⟨[], .bool true, [], by decide, (show 0 ≤ 0 by decide), .bool_eq rfl, trivial, rfl, rfl⟩
 replace h := F_beq hb10 h
 exact ⟨[(0, .str a0), (3, .own 0 0 0 ([[101, 99, 104, 111], [105, 102], [101, 108, 115, 101], [119, 104, 105, 108, 101], [102, 111, 114, 101, 97, 99, 104], [97, 115], [98, 114, 101, 97, 107], [99, 111, 110, 116, 105, 110, 117, 101], [114, 101, 116, 117, 114, 110], [103, 108, 111, 98, 97, 108], [117, 110, 115, 101, 116], [116, 104, 114, 111, 119], [116, 114, 121], [99, 97, 116, 99, 104], [102, 105, 110, 97, 108, 108, 121], [121, 105, 101, 108, 100], [105, 110, 99, 108, 117, 100, 101], [102, 117, 110, 99, 116, 105, 111, 110], [99, 108, 97, 115, 115], [116, 114, 97, 105, 116], [101, 120, 116, 101, 110, 100, 115], [117, 115, 101], [112, 114, 105, 118, 97, 116, 101], [115, 116, 97, 116, 105, 99], [110, 101, 119], [116, 114, 117, 101], [102, 97, 108, 115, 101], [110, 117, 108, 108]] : List Str).length), (4, .int .i64 (W64 (y4 + 1)))], [.row 0 1 ([[101, 99, 104, 111], [105, 102], [101, 108, 115, 101], [119, 104, 105, 108, 101], [102, 111, 114, 101, 97, 99, 104], [97, 115], [98, 114, 101, 97, 107], [99, 111, 110, 116, 105, 110, 117, 101], [114, 101, 116, 117, 114, 110], [103, 108, 111, 98, 97, 108], [117, 110, 115, 101, 116], [116, 104, 114, 111, 119], [116, 114, 121], [99, 97, 116, 99, 104], [102, 105, 110, 97, 108, 108, 121], [121, 105, 101, 108, 100], [105, 110, 99, 108, 117, 100, 101], [102, 117, 110, 99, 116, 105, 111, 110], [99, 108, 97, 115, 115], [116, 114, 97, 105, 116], [101, 120, 116, 101, 110, 100, 115], [117, 115, 101], [112, 114, 105, 118, 97, 116, 101], [115, 116, 97, 116, 105, 99], [110, 101, 119], [116, 114, 117, 101], [102, 97, 108, 115, 101], [110, 117, 108, 108]] : List Str).length 9 (row cS ([[101, 99, 104, 111], [105, 102], [101, 108, 115, 101], [119, 104, 105, 108, 101], [102, 111, 114, 101, 97, 99, 104], [97, 115], [98, 114, 101, 97, 107], [99, 111, 110, 116, 105, 110, 117, 101], [114, 101, 116, 117, 114, 110], [103, 108, 111, 98, 97, 108], [117, 110, 115, 101, 116], [116, 104, 114, 111, 119], [116, 114, 121], [99, 97, 116, 99, 104], [102, 105, 110, 97, 108, 108, 121], [121, 105, 101, 108, 100], [105, 110, 99, 108, 117, 100, 101], [102, 117, 110, 99, 116, 105, 111, 110], [99, 108, 97, 115, 115], [116, 114, 97, 105, 116], [101, 120, 116, 101, 110, 100, 115], [117, 115, 101], [112, 114, 105, 118, 97, 116, 101], [115, 116, 97, 116, 105, 99], [110, 101, 119], [116, 114, 117, 101], [102, 97, 108, 115, 101], [110, 117, 108, 108]] : List Str))], ⟨[0], by decide, (show 0 ≤ 1 by decide), ⟨.str_eq rfl, .own_eq rfl ⟨_, _, _, _, rfl⟩ ⟨_, _, _, _, rfl, Nat.le_of_eq (Nat.zero_add _)⟩ rfl rfl, .int_eq rfl, trivial⟩, ⟨⟨fun h0 => absurd (show 0 < 0 from h0) (by decide), rfl, .inl rfl, rfl, fz_row cS_pure⟩, trivial⟩⟩, ih5 _ _ h rfl⟩
 replace h := F_dec hb7 h
 exact ⟨[], [], ⟨[], by decide, (show 0 ≤ 0 by decide), trivial, trivial⟩, Option.some.inj h, rfl, rfl⟩
 rintro _ _ ⟨rfl, rfl, rfl⟩
 replace h := hk3
 refine .direct ?_
 obtain rfl := Option.some.inj h
 exact ⟨[], .bool false, [], by decide, (show 0 ≤ 0 by decide), .bool_eq rfl, trivial, rfl, rfl⟩
def m_s_l15Name (a0 : Str) : Option (Bool) :=
 m_s_IsName a0 >>= fun v1 =>
 (if v1 = true then
 m_s_IsReserved a0 >>= fun v4 =>
 some (!v4)
 else
 some false)
theorem ok_s_l15Name {a0 : Str} {r : Bool} (h : m_s_l15Name a0 = some r) : ACall Try.prog 84 [.str a0] [] (fun res h => res = .bool r ∧ h = []) := by
 refine ACall.of_vc tabT_ok mixed Try.func84 rfl (by kernel_rfl) _ _ _ rfl (by kernel_rfl) ?_
 unfold m_s_l15Name at h
 refine .direct ?_
 refine .direct ?_
 obtain ⟨v1, hv2, h⟩ := bind_some h
 refine ⟨_, ACall.pure0 (ok_s_IsName hv2) _ rfl (fun _ => rfl), ?_⟩
 rintro _ _ ⟨rfl, rfl⟩
 refine splitB.mk (fun hb3 => ?_) (fun hb3 => ?_)
 replace h := T_var hb3 h
 refine splitB_t ?_
 obtain ⟨v4, hv5, h⟩ := bind_some h
 refine ⟨_, ACall.pure0 (ok_s_IsReserved hv5) _ rfl (fun _ => rfl), ?_⟩
 rintro _ _ ⟨rfl, rfl⟩
 refine splitB_t ?_
 refine splitB_t ?_
 obtain rfl := Option.some.inj h
 exact ⟨[], .bool (!v4), [], by decide, (show 0 ≤ 0 by decide), .bool_eq rfl, trivial, rfl, rfl⟩
 replace h := F_var hb3 h
 refine splitB_f ?_
 refine splitB_f ?_
 refine splitB_f ?_
 obtain rfl := Option.some.inj h
 exact ⟨[], .bool false, [], by decide, (show 0 ≤ 0 by decide), .bool_eq rfl, trivial, rfl, rfl⟩
end Go.Am
