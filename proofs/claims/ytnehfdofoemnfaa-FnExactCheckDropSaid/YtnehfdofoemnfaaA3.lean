/- Models of Go functions, and their walks. (Printed by tools/mg.py.) -/
import Derived.Test.YtnehfdofoemnfaaA2
set_option linter.unusedVariables false
set_option linter.unusedSimpArgs false
set_option maxRecDepth 100000
namespace Go.Am
open Go Go.RowKit Go.Proofs

def m_CloneP (a0 : List TParam) : Option ((List TParam)) :=
 lapp 24 ([] : List TParam) a0 >>= fun l1 =>
 some l1
theorem ok_CloneP {a0 : List TParam} {r : (List TParam)} (h : m_CloneP a0 = some r) : ACall Try.prog 68 [sl 2 TParam.cells a0] [] (fun res h => res = .own 0 0 0 r.length ∧ h = [.row 0 2 r.length 75 (row TParam.cells r)]) := by
 refine ACall.of_vc tabT_ok mixed Try.func68 rfl (by kernel_rfl) _ _ _ rfl (by kernel_rfl) ?_
 unfold m_CloneP at h
 refine .direct ?_
 refine .direct ?_
 refine .direct ?_
 refine ⟨fun hn4 => ?_, ?_⟩
 have hz3 := List.eq_nil_of_length_eq_zero hn4
 rw [hz3] at h
 change some [] = _ at h
 refine splitB_t ?_
 refine .direct ?_
 obtain rfl := Option.some.inj h
 exact ⟨[0], .own 0 0 0 [].length, [.row 0 2 [].length 75 (row TParam.cells [])], by decide, (show 0 ≤ 1 by decide), (.nilo _ _ _ _ _ _ rfl rfl rfl), ⟨⟨(show 0 ≤ 0 by decide), rfl⟩, trivial⟩, rfl, rfl⟩
 refine splitB_f ?_
 refine .direct ?_
 refine ⟨row TParam.cells ([] : List TParam), row_lit TParam.cells ([] : List TParam) rfl (cll_refl rfl), ?_⟩
 obtain ⟨l1, hx2, h⟩ := bind_some h
 refine ⟨rfl, lapp_bd hx2, l1.length, row TParam.cells l1, lapp_len hx2, lapp_row hx2 shows_all src_slc, ?_⟩
 obtain rfl := Option.some.inj h
 exact ⟨[0], .own 0 0 0 l1.length, [.row 0 2 l1.length 75 (row TParam.cells l1)], by decide, (show 0 ≤ 1 by decide), .own_eq rfl ⟨_, _, _, _, rfl⟩ ⟨_, _, _, _, rfl, Nat.le_of_eq (Nat.zero_add _)⟩ rfl rfl, ⟨⟨fun h0 => absurd (show 0 < 0 from h0) (by decide), rfl, .inl rfl, rfl, fz_row TParam.cells_pure⟩, trivial⟩, rfl, rfl⟩
def m_CloneS (a0 : List Str) : Option ((List Str)) :=
 lapp 16 ([] : List Str) a0 >>= fun l1 =>
 some l1
theorem ok_CloneS {a0 : List Str} {r : (List Str)} (h : m_CloneS a0 = some r) : ACall Try.prog 81 [sl 1 cS a0] [] (fun res h => res = .own 0 0 0 r.length ∧ h = [.row 0 1 r.length 9 (row cS r)]) := by
 refine ACall.of_vc tabT_ok mixed Try.func81 rfl (by kernel_rfl) _ _ _ rfl (by kernel_rfl) ?_
 unfold m_CloneS at h
 refine .direct ?_
 refine .direct ?_
 refine .direct ?_
 refine ⟨fun hn4 => ?_, ?_⟩
 have hz3 := List.eq_nil_of_length_eq_zero hn4
 rw [hz3] at h
 change some [] = _ at h
 refine splitB_t ?_
 refine .direct ?_
 obtain rfl := Option.some.inj h
 exact ⟨[0], .own 0 0 0 [].length, [.row 0 1 [].length 9 (row cS [])], by decide, (show 0 ≤ 1 by decide), (.nilo _ _ _ _ _ _ rfl rfl rfl), ⟨⟨(show 0 ≤ 0 by decide), rfl⟩, trivial⟩, rfl, rfl⟩
 refine splitB_f ?_
 refine .direct ?_
 refine ⟨row cS ([] : List Str), row_lit cS ([] : List Str) rfl (cll_refl rfl), ?_⟩
 obtain ⟨l1, hx2, h⟩ := bind_some h
 refine ⟨rfl, lapp_bd hx2, l1.length, row cS l1, lapp_len hx2, lapp_row hx2 shows_all src_slc, ?_⟩
 obtain rfl := Option.some.inj h
 exact ⟨[0], .own 0 0 0 l1.length, [.row 0 1 l1.length 9 (row cS l1)], by decide, (show 0 ≤ 1 by decide), .own_eq rfl ⟨_, _, _, _, rfl⟩ ⟨_, _, _, _, rfl, Nat.le_of_eq (Nat.zero_add _)⟩ rfl rfl, ⟨⟨fun h0 => absurd (show 0 < 0 from h0) (by decide), rfl, .inl rfl, rfl, fz_row cS_pure⟩, trivial⟩, rfl, rfl⟩
def m_CloneI (a0 : List TIns) : Option ((List TIns)) :=
 lapp 56 ([] : List TIns) a0 >>= fun l1 =>
 some l1
theorem ok_CloneI {a0 : List TIns} {r : (List TIns)} (h : m_CloneI a0 = some r) : ACall Try.prog 82 [sl 5 TIns.cells a0] [] (fun res h => res = .own 0 0 0 r.length ∧ h = [.row 0 5 r.length 53 (row TIns.cells r)]) := by
 refine ACall.of_vc tabT_ok mixed Try.func82 rfl (by kernel_rfl) _ _ _ rfl (by kernel_rfl) ?_
 unfold m_CloneI at h
 refine .direct ?_
 refine .direct ?_
 refine .direct ?_
 refine ⟨fun hn4 => ?_, ?_⟩
 have hz3 := List.eq_nil_of_length_eq_zero hn4
 rw [hz3] at h
 change some [] = _ at h
 refine splitB_t ?_
 refine .direct ?_
 obtain rfl := Option.some.inj h
 exact ⟨[0], .own 0 0 0 [].length, [.row 0 5 [].length 53 (row TIns.cells [])], by decide, (show 0 ≤ 1 by decide), (.nilo _ _ _ _ _ _ rfl rfl rfl), ⟨⟨(show 0 ≤ 0 by decide), rfl⟩, trivial⟩, rfl, rfl⟩
 refine splitB_f ?_
 refine .direct ?_
 refine ⟨row TIns.cells ([] : List TIns), row_lit TIns.cells ([] : List TIns) rfl (cll_refl rfl), ?_⟩
 obtain ⟨l1, hx2, h⟩ := bind_some h
 refine ⟨rfl, lapp_bd hx2, l1.length, row TIns.cells l1, lapp_len hx2, lapp_row hx2 shows_all src_slc, ?_⟩
 obtain rfl := Option.some.inj h
 exact ⟨[0], .own 0 0 0 l1.length, [.row 0 5 l1.length 53 (row TIns.cells l1)], by decide, (show 0 ≤ 1 by decide), .own_eq rfl ⟨_, _, _, _, rfl⟩ ⟨_, _, _, _, rfl, Nat.le_of_eq (Nat.zero_add _)⟩ rfl rfl, ⟨⟨fun h0 => absurd (show 0 < 0 from h0) (by decide), rfl, .inl rfl, rfl, fz_row TIns.cells_pure⟩, trivial⟩, rfl, rfl⟩
def m_EqualP_L2 (a0 : List TParam) (a1 : List TParam) (y5 : Int) : Option ((Unit) ⊕ Bool) :=
 (if y5 < (a0.length : Int) then
 idx a0 y5 >>= fun x9 =>
 idx a1 y5 >>= fun x11 =>
 (if x9 = x11 then
 m_EqualP_L2 a0 a1 (W64 (y5 + 1))
 else
 some (.inr false))
 else
 some (.inl ()))
partial_fixpoint
def m_EqualP (a0 : List TParam) (a1 : List TParam) : Option (Bool) :=
 (if (a0.length : Int) = (a1.length : Int) then
 ((
 m_EqualP_L2 a0 a1 0
 : Option ((Unit) ⊕ Bool)) >>= fun o2 => match o2 with
 | .inr r => some r
 | .inl _ =>
 some true
 )
 else
 some false)
theorem ok_EqualP {a0 : List TParam} {a1 : List TParam} {r : Bool} (h : m_EqualP a0 a1 = some r) : ACall Try.prog 70 [sl 2 TParam.cells a0, sl 2 TParam.cells a1] [] (fun res h => res = .bool r ∧ h = []) := by
 refine ACall.of_vc tabT_ok mixed Try.func70 rfl (by kernel_rfl) _ _ _ rfl (by kernel_rfl) ?_
 unfold m_EqualP at h
 refine .direct ?_
 refine .direct ?_
 refine .direct ?_
 refine splitB.mk (fun hb1 => ?_) (fun hb1 => ?_)
 replace h := T_bne hb1 h
 refine .direct ?_
 obtain rfl := Option.some.inj h
 exact ⟨[], .bool false, [], by decide, (show 0 ≤ 0 by decide), .bool_eq rfl, trivial, rfl, rfl⟩
 replace h := F_bne hb1 h
 obtain ⟨o2, ho3, hk4⟩ := bind_some h
 replace h := ho3
 refine .cut (fun σ η => .inl () = o2 ∧ σ = [] ∧ η = []) ?_ ?_
 refine .direct ?_
 refine LoopAt.enter [(0, sl 2 TParam.cells a0), (1, sl 2 TParam.cells a1), (12, .int .i64 (a0.length : Int)), (13, .int .i64 0)] [] ⟨[], by decide, (show 0 ≤ 0 by decide), ⟨.slc_eq rfl (fun _ _ => rfl), .slc_eq rfl (fun _ _ => rfl), .int_eq rfl, .int_eq rfl, trivial⟩, trivial⟩ ?_
 refine m_EqualP_L2.partial_correctness a0 a1 (motive := fun y5 o15 => o2 = o15 → LoopAt _ _ [(0, sl 2 TParam.cells a0), (1, sl 2 TParam.cells a1), (12, .int .i64 (a0.length : Int)), (13, .int .i64 y5)] []) ?_ 0 o2 h rfl
 intro F7 ih6 y5 o15 h hr16
 subst hr16
 refine LoopAt.round ?_
 refine .direct ?_
 refine .direct ?_
 refine splitB.mk (fun hb8 => ?_) (fun hb8 => ?_)
 replace h := T_dec hb8 h
 refine .direct ?_
 refine .direct ?_
 refine .direct ?_
 obtain ⟨x9, hx10, h⟩ := bind_some h
 refine ⟨idx_bd hx10, _, (idx_row hx10).trans (TParam.cells_eq x9), ?_⟩
 obtain ⟨x11, hx12, h⟩ := bind_some h
 refine ⟨idx_bd hx12, _, (idx_row hx12).trans (TParam.cells_eq x11), ?_⟩
 refine ⟨_, TParam.eq_cells x9 x11, ?_⟩
 refine splitB.mk (fun hb13 => ?_) (fun hb13 => ?_)
 have hb14 := not_F hb13
 replace h := F_dec hb14 h
 refine .direct ?_
 obtain rfl := Option.some.inj h
 replace h := hk4
 obtain rfl := Option.some.inj h
 exact ⟨[], .bool false, [], by decide, (show 0 ≤ 0 by decide), .bool_eq rfl, trivial, rfl, rfl⟩
 have hb14 := not_T hb13
 replace h := T_dec hb14 h
 exact ⟨[(0, sl 2 TParam.cells a0), (1, sl 2 TParam.cells a1), (12, .int .i64 (a0.length : Int)), (13, .int .i64 (W64 (y5 + 1)))], [], ⟨[], by decide, (show 0 ≤ 0 by decide), ⟨.slc_eq rfl (fun _ _ => rfl), .slc_eq rfl (fun _ _ => rfl), .int_eq rfl, .int_eq rfl, trivial⟩, trivial⟩, ih6 _ _ h rfl⟩
 replace h := F_dec hb8 h
 exact ⟨[], [], ⟨[], by decide, (show 0 ≤ 0 by decide), trivial, trivial⟩, Option.some.inj h, rfl, rfl⟩
 rintro _ _ ⟨rfl, rfl, rfl⟩
 replace h := hk4
 refine .direct ?_
 obtain rfl := Option.some.inj h
 exact ⟨[], .bool true, [], by decide, (show 0 ≤ 0 by decide), .bool_eq rfl, trivial, rfl, rfl⟩
def m_EqualS_L2 (a0 : List Str) (a1 : List Str) (y5 : Int) : Option ((Unit) ⊕ Bool) :=
 (if y5 < (a0.length : Int) then
 idx a0 y5 >>= fun x9 =>
 idx a1 y5 >>= fun x11 =>
 (if x9 = x11 then
 m_EqualS_L2 a0 a1 (W64 (y5 + 1))
 else
 some (.inr false))
 else
 some (.inl ()))
partial_fixpoint
def m_EqualS (a0 : List Str) (a1 : List Str) : Option (Bool) :=
 (if (a0.length : Int) = (a1.length : Int) then
 ((
 m_EqualS_L2 a0 a1 0
 : Option ((Unit) ⊕ Bool)) >>= fun o2 => match o2 with
 | .inr r => some r
 | .inl _ =>
 some true
 )
 else
 some false)
theorem ok_EqualS {a0 : List Str} {a1 : List Str} {r : Bool} (h : m_EqualS a0 a1 = some r) : ACall Try.prog 71 [sl 1 cS a0, sl 1 cS a1] [] (fun res h => res = .bool r ∧ h = []) := by
 refine ACall.of_vc tabT_ok mixed Try.func71 rfl (by kernel_rfl) _ _ _ rfl (by kernel_rfl) ?_
 unfold m_EqualS at h
 refine .direct ?_
 refine .direct ?_
 refine .direct ?_
 refine splitB.mk (fun hb1 => ?_) (fun hb1 => ?_)
 replace h := T_bne hb1 h
 refine .direct ?_
 obtain rfl := Option.some.inj h
 exact ⟨[], .bool false, [], by decide, (show 0 ≤ 0 by decide), .bool_eq rfl, trivial, rfl, rfl⟩
 replace h := F_bne hb1 h
 obtain ⟨o2, ho3, hk4⟩ := bind_some h
 replace h := ho3
 refine .cut (fun σ η => .inl () = o2 ∧ σ = [] ∧ η = []) ?_ ?_
 refine .direct ?_
 refine LoopAt.enter [(0, sl 1 cS a0), (1, sl 1 cS a1), (12, .int .i64 (a0.length : Int)), (13, .int .i64 0)] [] ⟨[], by decide, (show 0 ≤ 0 by decide), ⟨.slc_eq rfl (fun _ _ => rfl), .slc_eq rfl (fun _ _ => rfl), .int_eq rfl, .int_eq rfl, trivial⟩, trivial⟩ ?_
 refine m_EqualS_L2.partial_correctness a0 a1 (motive := fun y5 o15 => o2 = o15 → LoopAt _ _ [(0, sl 1 cS a0), (1, sl 1 cS a1), (12, .int .i64 (a0.length : Int)), (13, .int .i64 y5)] []) ?_ 0 o2 h rfl
 intro F7 ih6 y5 o15 h hr16
 subst hr16
 refine LoopAt.round ?_
 refine .direct ?_
 refine .direct ?_
 refine splitB.mk (fun hb8 => ?_) (fun hb8 => ?_)
 replace h := T_dec hb8 h
 refine .direct ?_
 refine .direct ?_
 refine .direct ?_
 obtain ⟨x9, hx10, h⟩ := bind_some h
 refine ⟨idx_bd hx10, _, (idx_row hx10).trans rfl, ?_⟩
 obtain ⟨x11, hx12, h⟩ := bind_some h
 refine ⟨idx_bd hx12, _, (idx_row hx12).trans rfl, ?_⟩
 refine splitB.mk (fun hb13 => ?_) (fun hb13 => ?_)
 have hb14 := not_F hb13
 replace h := F_beq hb14 h
 refine .direct ?_
 obtain rfl := Option.some.inj h
 replace h := hk4
 obtain rfl := Option.some.inj h
 exact ⟨[], .bool false, [], by decide, (show 0 ≤ 0 by decide), .bool_eq rfl, trivial, rfl, rfl⟩
 have hb14 := not_T hb13
 replace h := T_beq hb14 h
 exact ⟨[(0, sl 1 cS a0), (1, sl 1 cS a1), (12, .int .i64 (a0.length : Int)), (13, .int .i64 (W64 (y5 + 1)))], [], ⟨[], by decide, (show 0 ≤ 0 by decide), ⟨.slc_eq rfl (fun _ _ => rfl), .slc_eq rfl (fun _ _ => rfl), .int_eq rfl, .int_eq rfl, trivial⟩, trivial⟩, ih6 _ _ h rfl⟩
 replace h := F_dec hb8 h
 exact ⟨[], [], ⟨[], by decide, (show 0 ≤ 0 by decide), trivial, trivial⟩, Option.some.inj h, rfl, rfl⟩
 rintro _ _ ⟨rfl, rfl, rfl⟩
 replace h := hk4
 refine .direct ?_
 obtain rfl := Option.some.inj h
 exact ⟨[], .bool true, [], by decide, (show 0 ≤ 0 by decide), .bool_eq rfl, trivial, rfl, rfl⟩
def m_IndexN_L2 (a0 : List Int) (a1 : Int) (y4 : Int) : Option ((Unit) ⊕ Int) :=
 (if y4 < (a0.length : Int) then
 idx a0 y4 >>= fun x8 =>
 (if a1 = x8 then
 some (.inr y4)
 else
 m_IndexN_L2 a0 a1 (W64 (y4 + 1)))
 else
 some (.inl ()))
partial_fixpoint
def m_IndexN (a0 : List Int) (a1 : Int) : Option (Int) :=
 ((
 m_IndexN_L2 a0 a1 0
 : Option ((Unit) ⊕ Int)) >>= fun o1 => match o1 with
 | .inr r => some r
 | .inl _ =>
 some (-1)
 )
theorem ok_IndexN {a0 : List Int} {a1 : Int} {r : Int} (h : m_IndexN a0 a1 = some r) : ACall Try.prog 80 [sl 1 cI a0, .int .i64 a1] [] (fun res h => res = .int .i64 r ∧ h = []) := by
 refine ACall.of_vc tabT_ok mixed Try.func80 rfl (by kernel_rfl) _ _ _ rfl (by kernel_rfl) ?_
 unfold m_IndexN at h
 refine .direct ?_
 obtain ⟨o1, ho2, hk3⟩ := bind_some h
 replace h := ho2
 refine .cut (fun σ η => .inl () = o1 ∧ σ = [] ∧ η = []) ?_ ?_
 refine .direct ?_
 refine LoopAt.enter [(0, sl 1 cI a0), (1, .int .i64 a1), (7, .int .i64 (a0.length : Int)), (8, .int .i64 0)] [] ⟨[], by decide, (show 0 ≤ 0 by decide), ⟨.slc_eq rfl (fun _ _ => rfl), .int_eq rfl, .int_eq rfl, .int_eq rfl, trivial⟩, trivial⟩ ?_
 refine m_IndexN_L2.partial_correctness a0 a1 (motive := fun y4 o11 => o1 = o11 → LoopAt _ _ [(0, sl 1 cI a0), (1, .int .i64 a1), (7, .int .i64 (a0.length : Int)), (8, .int .i64 y4)] []) ?_ 0 o1 h rfl
 intro F6 ih5 y4 o11 h hr12
 subst hr12
 refine LoopAt.round ?_
 refine .direct ?_
 refine .direct ?_
 refine splitB.mk (fun hb7 => ?_) (fun hb7 => ?_)
 replace h := T_dec hb7 h
 refine .direct ?_
 refine .direct ?_
 refine .direct ?_
 obtain ⟨x8, hx9, h⟩ := bind_some h
 refine ⟨idx_bd hx9, _, (idx_row hx9).trans rfl, ?_⟩
 refine splitB.mk (fun hb10 => ?_) (fun hb10 => ?_)
 replace h := T_beq hb10 h
 refine .direct ?_
 obtain rfl := Option.some.inj h
 replace h := hk3
 obtain rfl := Option.some.inj h
 exact ⟨[], .int .i64 y4, [], by decide, (show 0 ≤ 0 by decide), .int_eq rfl, trivial, rfl, rfl⟩
 replace h := F_beq hb10 h
 exact ⟨[(0, sl 1 cI a0), (1, .int .i64 a1), (7, .int .i64 (a0.length : Int)), (8, .int .i64 (W64 (y4 + 1)))], [], ⟨[], by decide, (show 0 ≤ 0 by decide), ⟨.slc_eq rfl (fun _ _ => rfl), .int_eq rfl, .int_eq rfl, .int_eq rfl, trivial⟩, trivial⟩, ih5 _ _ h rfl⟩
 replace h := F_dec hb7 h
 exact ⟨[], [], ⟨[], by decide, (show 0 ≤ 0 by decide), trivial, trivial⟩, Option.some.inj h, rfl, rfl⟩
 rintro _ _ ⟨rfl, rfl, rfl⟩
 replace h := hk3
 refine .direct ?_
 obtain rfl := Option.some.inj h
 exact ⟨[], .int .i64 (-1), [], by decide, (show 0 ≤ 0 by decide), .int_eq rfl, trivial, rfl, rfl⟩
def m_ContainsN (a0 : List Int) (a1 : Int) : Option (Bool) :=
 m_IndexN a0 a1 >>= fun v1 =>
 some (decide (v1 ≥ 0))
theorem ok_ContainsN {a0 : List Int} {a1 : Int} {r : Bool} (h : m_ContainsN a0 a1 = some r) : ACall Try.prog 44 [sl 1 cI a0, .int .i64 a1] [] (fun res h => res = .bool r ∧ h = []) := by
 refine ACall.of_vc tabT_ok mixed Try.func44 rfl (by kernel_rfl) _ _ _ rfl (by kernel_rfl) ?_
 unfold m_ContainsN at h
 refine .direct ?_
 refine .direct ?_
 obtain ⟨v1, hv2, h⟩ := bind_some h
 refine ⟨_, ACall.pure0 (ok_IndexN hv2) _ rfl (fun _ => rfl), ?_⟩
 rintro _ _ ⟨rfl, rfl⟩
 obtain rfl := Option.some.inj h
 exact ⟨[], .bool (decide (v1 ≥ 0)), [], by decide, (show 0 ≤ 0 by decide), .bool_eq rfl, trivial, rfl, rfl⟩
def m_internalstringsliteHasPrefix (a0 : Str) (a1 : Str) : Option (Bool) :=
 (if (a0.length : Int) ≥ (a1.length : Int) then
 sto a0 (a1.length : Int) >>= fun s2 =>
 some (s2 == a1)
 else
 some false)
theorem ok_internalstringsliteHasPrefix {a0 : Str} {a1 : Str} {r : Bool} (h : m_internalstringsliteHasPrefix a0 a1 = some r) : ACall Try.prog 97 [.str a0, .str a1] [] (fun res h => res = .bool r ∧ h = []) := by
 refine ACall.of_vc tabT_ok mixed Try.func97 rfl (by kernel_rfl) _ _ _ rfl (by kernel_rfl) ?_
 unfold m_internalstringsliteHasPrefix at h
 refine .direct ?_
 refine .direct ?_
 refine splitB.mk (fun hb1 => ?_) (fun hb1 => ?_)
 replace h := T_dec hb1 h
 refine splitB_t ?_
 refine splitB_t ?_
 refine splitB_t ?_
 obtain ⟨s2, hx3, h⟩ := bind_some h
 refine ⟨sto_bd hx3, s2, sto_at hx3, ?_⟩
 refine splitB_t ?_
 refine splitB_t ?_
 refine splitB_t ?_
 obtain rfl := Option.some.inj h
 exact ⟨[], .bool (s2 == a1), [], by decide, (show 0 ≤ 0 by decide), .bool_eq rfl, trivial, rfl, rfl⟩
 replace h := F_dec hb1 h
 refine splitB_f ?_
 refine splitB_f ?_
 refine splitB_f ?_
 refine splitB_f ?_
 refine splitB_f ?_
 refine splitB_f ?_
 obtain rfl := Option.some.inj h
 exact ⟨[], .bool false, [], by decide, (show 0 ≤ 0 by decide), .bool_eq rfl, trivial, rfl, rfl⟩
def m_stringsHasPrefix (a0 : Str) (a1 : Str) : Option (Bool) :=
 m_internalstringsliteHasPrefix a0 a1 >>= fun v1 =>
 some v1
theorem ok_stringsHasPrefix {a0 : Str} {a1 : Str} {r : Bool} (h : m_stringsHasPrefix a0 a1 = some r) : ACall Try.prog 90 [.str a0, .str a1] [] (fun res h => res = .bool r ∧ h = []) := by
 refine ACall.of_vc tabT_ok mixed Try.func90 rfl (by kernel_rfl) _ _ _ rfl (by kernel_rfl) ?_
 unfold m_stringsHasPrefix at h
 refine .direct ?_
 refine .direct ?_
 obtain ⟨v1, hv2, h⟩ := bind_some h
 refine ⟨_, ACall.pure0 (ok_internalstringsliteHasPrefix hv2) _ rfl (fun _ => rfl), ?_⟩
 rintro _ _ ⟨rfl, rfl⟩
 obtain rfl := Option.some.inj h
 exact ⟨[], .bool v1, [], by decide, (show 0 ≤ 0 by decide), .bool_eq rfl, trivial, rfl, rfl⟩
def m_i_isFile (a0 : TFunc) : Option (Bool) :=
 m_stringsHasPrefix a0.fName [47] >>= fun v1 =>
 some v1
theorem ok_i_isFile {a0 : TFunc} {r : Bool} (h : m_i_isFile a0 = some r) : ACall Try.prog 69 [.agg [.str a0.fName, sl 2 TParam.cells a0.fParams, sl 2 TParam.cells a0.fUses, sl 1 cS a0.fSlots, .bool a0.fGen, sl 5 TIns.cells a0.fCode]] [] (fun res h => res = .bool r ∧ h = []) := by
 refine ACall.of_vc tabT_ok mixed Try.func69 rfl (by kernel_rfl) _ _ _ rfl (by kernel_rfl) ?_
 unfold m_i_isFile at h
 refine .direct ?_
 refine .direct ?_
 refine ⟨rfl, ?_⟩
 refine ⟨rfl, _, rfl, ?_⟩
 obtain ⟨v1, hv2, h⟩ := bind_some h
 refine ⟨_, ACall.pure0 (ok_stringsHasPrefix hv2) _ rfl (fun _ => rfl), ?_⟩
 rintro _ _ ⟨rfl, rfl⟩
 obtain rfl := Option.some.inj h
 exact ⟨[], .bool v1, [], by decide, (show 0 ≤ 0 by decide), .bool_eq rfl, trivial, rfl, rfl⟩
def m_i_agree (a0 : TFunc) (a1 : TFunc) : Option (Bool) :=
 (if a0.fName = a1.fName then
 (if a0.fGen = a1.fGen then
 m_EqualP a0.fParams a1.fParams >>= fun v3 =>
 (if v3 = true then
 m_EqualP a0.fUses a1.fUses >>= fun v6 =>
 (if v6 = true then
 m_EqualS a0.fSlots a1.fSlots >>= fun v9 =>
 some v9
 else
 some false)
 else
 some false)
 else
 some false)
 else
 some false)
theorem ok_i_agree {a0 : TFunc} {a1 : TFunc} {r : Bool} (h : m_i_agree a0 a1 = some r) : ACall Try.prog 35 [.agg [.str a0.fName, sl 2 TParam.cells a0.fParams, sl 2 TParam.cells a0.fUses, sl 1 cS a0.fSlots, .bool a0.fGen, sl 5 TIns.cells a0.fCode], .agg [.str a1.fName, sl 2 TParam.cells a1.fParams, sl 2 TParam.cells a1.fUses, sl 1 cS a1.fSlots, .bool a1.fGen, sl 5 TIns.cells a1.fCode]] [] (fun res h => res = .bool r ∧ h = []) := by
 refine ACall.of_vc tabT_ok mixed Try.func35 rfl (by kernel_rfl) _ _ _ rfl (by kernel_rfl) ?_
 unfold m_i_agree at h
 refine .direct ?_
 refine .direct ?_
 refine ⟨rfl, ?_⟩
 refine ⟨rfl, _, rfl, ?_⟩
 refine ⟨rfl, ?_⟩
 refine ⟨rfl, _, rfl, ?_⟩
 refine splitB.mk (fun hb1 => ?_) (fun hb1 => ?_)
 replace h := T_beq hb1 h
 refine ⟨rfl, ?_⟩
 refine splitB_t ?_
 refine ⟨rfl, _, rfl, ?_⟩
 refine splitB_t ?_
 refine ⟨rfl, ?_⟩
 refine splitB_t ?_
 refine ⟨rfl, _, rfl, ?_⟩
 refine splitB_t ?_
 refine splitB_t ?_
 refine splitB.mk (fun hb2 => ?_) (fun hb2 => ?_)
 replace h := T_beq hb2 h
 refine ⟨rfl, ?_⟩
 refine splitB_t ?_
 refine ⟨rfl, _, rfl, ?_⟩
 refine splitB_t ?_
 refine ⟨rfl, ?_⟩
 refine splitB_t ?_
 refine ⟨rfl, _, rfl, ?_⟩
 refine splitB_t ?_
 obtain ⟨v3, hv4, h⟩ := bind_some h
 refine ⟨_, ACall.pure0 (ok_EqualP hv4) _ rfl (fun _ => rfl), ?_⟩
 rintro _ _ ⟨rfl, rfl⟩
 refine splitB_t ?_
 refine splitB.mk (fun hb5 => ?_) (fun hb5 => ?_)
 replace h := T_var hb5 h
 refine ⟨rfl, ?_⟩
 refine splitB_t ?_
 refine ⟨rfl, _, rfl, ?_⟩
 refine splitB_t ?_
 refine ⟨rfl, ?_⟩
 refine splitB_t ?_
 refine ⟨rfl, _, rfl, ?_⟩
 refine splitB_t ?_
 obtain ⟨v6, hv7, h⟩ := bind_some h
 refine ⟨_, ACall.pure0 (ok_EqualP hv7) _ rfl (fun _ => rfl), ?_⟩
 rintro _ _ ⟨rfl, rfl⟩
 refine splitB_t ?_
 refine splitB.mk (fun hb8 => ?_) (fun hb8 => ?_)
 replace h := T_var hb8 h
 refine ⟨rfl, ?_⟩
 refine splitB_t ?_
 refine ⟨rfl, _, rfl, ?_⟩
 refine splitB_t ?_
 refine ⟨rfl, ?_⟩
 refine splitB_t ?_
 refine ⟨rfl, _, rfl, ?_⟩
 refine splitB_t ?_
 obtain ⟨v9, hv10, h⟩ := bind_some h
 refine ⟨_, ACall.pure0 (ok_EqualS hv10) _ rfl (fun _ => rfl), ?_⟩
 rintro _ _ ⟨rfl, rfl⟩
 refine splitB_t ?_
 obtain rfl := Option.some.inj h
 exact ⟨[], .bool v9, [], by decide, (show 0 ≤ 0 by decide), .bool_eq rfl, trivial, rfl, rfl⟩
 replace h := F_var hb8 h
 refine splitB_f ?_
 refine splitB_f ?_
 refine splitB_f ?_
 refine splitB_f ?_
 refine splitB_f ?_
 obtain rfl := Option.some.inj h
 exact ⟨[], .bool false, [], by decide, (show 0 ≤ 0 by decide), .bool_eq rfl, trivial, rfl, rfl⟩
 replace h := F_var hb5 h
 refine splitB_f ?_
 refine splitB_f ?_
 refine splitB_f ?_
 refine splitB_f ?_
 refine splitB_f ?_
 refine splitB_f ?_
 refine splitB_f ?_
 refine splitB_f ?_
 refine splitB_f ?_
 refine splitB_f ?_
 refine splitB_f ?_
 obtain rfl := Option.some.inj h
 exact ⟨[], .bool false, [], by decide, (show 0 ≤ 0 by decide), .bool_eq rfl, trivial, rfl, rfl⟩
 replace h := F_beq hb2 h
 refine splitB_f ?_
 refine splitB_f ?_
 refine splitB_f ?_
 refine splitB_f ?_
 refine splitB_f ?_
 refine splitB_f ?_
 refine splitB_f ?_
 refine splitB_f ?_
 refine splitB_f ?_
 refine splitB_f ?_
 refine splitB_f ?_
 refine splitB_f ?_
 refine splitB_f ?_
 refine splitB_f ?_
 refine splitB_f ?_
 refine splitB_f ?_
 refine splitB_f ?_
 obtain rfl := Option.some.inj h
 exact ⟨[], .bool false, [], by decide, (show 0 ≤ 0 by decide), .bool_eq rfl, trivial, rfl, rfl⟩
 replace h := F_beq hb1 h
 refine splitB_f ?_
 refine splitB_f ?_
 refine splitB_f ?_
 refine splitB_f ?_
 refine splitB_f ?_
 refine splitB_f ?_
 refine splitB_f ?_
 refine splitB_f ?_
 refine splitB_f ?_
 refine splitB_f ?_
 refine splitB_f ?_
 refine splitB_f ?_
 refine splitB_f ?_
 refine splitB_f ?_
 refine splitB_f ?_
 refine splitB_f ?_
 refine splitB_f ?_
 refine splitB_f ?_
 refine splitB_f ?_
 refine splitB_f ?_
 refine splitB_f ?_
 refine splitB_f ?_
 refine splitB_f ?_
 obtain rfl := Option.some.inj h
 exact ⟨[], .bool false, [], by decide, (show 0 ≤ 0 by decide), .bool_eq rfl, trivial, rfl, rfl⟩
def m_i_copyFunc (a0 : TFunc) : Option (TFunc) :=
 m_CloneP a0.fParams >>= fun v1 =>
 m_CloneP a0.fUses >>= fun v3 =>
 m_CloneS a0.fSlots >>= fun v5 =>
 m_CloneI a0.fCode >>= fun v7 =>
 some (TFunc.mk a0.fName v1 v3 v5 a0.fGen v7)
theorem ok_i_copyFunc {a0 : TFunc} {r : TFunc} (h : m_i_copyFunc a0 = some r) : ACall Try.prog 47 [.agg [.str a0.fName, sl 2 TParam.cells a0.fParams, sl 2 TParam.cells a0.fUses, sl 1 cS a0.fSlots, .bool a0.fGen, sl 5 TIns.cells a0.fCode]] [] (fun res h => res = .agg [.str r.fName, sl 2 TParam.cells r.fParams, sl 2 TParam.cells r.fUses, sl 1 cS r.fSlots, .bool r.fGen, sl 5 TIns.cells r.fCode] ∧ h = []) := by
 refine ACall.of_vc tabT_ok mixed Try.func47 rfl (by kernel_rfl) _ _ _ rfl (by kernel_rfl) ?_
 unfold m_i_copyFunc at h
 refine .direct ?_
 refine .direct ?_
 refine ⟨rfl, _, rfl, ?_⟩
 refine ⟨rfl, _, fun _ => [.str a0.fName, sl 2 TParam.cells a0.fParams, sl 2 TParam.cells a0.fUses, sl 1 cS a0.fSlots, .bool a0.fGen, sl 5 TIns.cells a0.fCode], rfl, one_set rfl, ?_⟩
 refine .direct ?_
 refine ⟨rfl, ?_⟩
 refine ⟨rfl, _, rfl, ?_⟩
 obtain ⟨v1, hv2, h⟩ := bind_some h
 refine ⟨fun res h' => res = .own 3 0 0 v1.length ∧ h' = [.row 0 6 1 33 (fun _ => [.str a0.fName, sl 2 TParam.cells a0.fParams, sl 2 TParam.cells a0.fUses, sl 1 cS a0.fSlots, .bool a0.fGen, sl 5 TIns.cells a0.fCode]), .row 0 6 1 33 (fun _ => [.str [], .nils, .nils, .nils, .bool false, .nils]), .row 0 6 1 33 (fun _ => [.str a0.fName, sl 2 TParam.cells a0.fParams, sl 2 TParam.cells a0.fUses, sl 1 cS a0.fSlots, .bool a0.fGen, sl 5 TIns.cells a0.fCode]), .row 0 2 v1.length 75 (row TParam.cells v1)], (ACall.frame (ok_CloneP hv2) [.row 0 6 1 33 (fun _ => [.str a0.fName, sl 2 TParam.cells a0.fParams, sl 2 TParam.cells a0.fUses, sl 1 cS a0.fSlots, .bool a0.fGen, sl 5 TIns.cells a0.fCode]), .row 0 6 1 33 (fun _ => [.str [], .nils, .nils, .nils, .bool false, .nils]), .row 0 6 1 33 (fun _ => [.str a0.fName, sl 2 TParam.cells a0.fParams, sl 2 TParam.cells a0.fUses, sl 1 cS a0.fSlots, .bool a0.fGen, sl 5 TIns.cells a0.fCode])] rfl).mono (by rintro _ _ ⟨_, _, ⟨rfl, rfl⟩, rfl, rfl⟩; exact ⟨rfl, by simp only [List.map_cons, List.map_nil, shiftO_row TParam.cells_pure]; rfl⟩), ?_⟩
 rintro _ _ ⟨rfl, rfl⟩
 refine ⟨rfl, ?_⟩
 refine ⟨rfl, _, fun _ => [.str a0.fName, .own 3 0 0 v1.length, sl 2 TParam.cells a0.fUses, sl 1 cS a0.fSlots, .bool a0.fGen, sl 5 TIns.cells a0.fCode], rfl, one_set rfl, ?_⟩
 refine .direct ?_
 refine ⟨rfl, ?_⟩
 refine ⟨rfl, _, rfl, ?_⟩
 obtain ⟨v3, hv4, h⟩ := bind_some h
 refine ⟨fun res h' => res = .own 4 0 0 v3.length ∧ h' = [.row 0 6 1 33 (fun _ => [.str a0.fName, sl 2 TParam.cells a0.fParams, sl 2 TParam.cells a0.fUses, sl 1 cS a0.fSlots, .bool a0.fGen, sl 5 TIns.cells a0.fCode]), .row 0 6 1 33 (fun _ => [.str [], .nils, .nils, .nils, .bool false, .nils]), .row 0 6 1 33 (fun _ => [.str a0.fName, .own 3 0 0 v1.length, sl 2 TParam.cells a0.fUses, sl 1 cS a0.fSlots, .bool a0.fGen, sl 5 TIns.cells a0.fCode]), .row 0 2 v1.length 75 (row TParam.cells v1), .row 0 2 v3.length 75 (row TParam.cells v3)], (ACall.frame (ok_CloneP hv4) [.row 0 6 1 33 (fun _ => [.str a0.fName, sl 2 TParam.cells a0.fParams, sl 2 TParam.cells a0.fUses, sl 1 cS a0.fSlots, .bool a0.fGen, sl 5 TIns.cells a0.fCode]), .row 0 6 1 33 (fun _ => [.str [], .nils, .nils, .nils, .bool false, .nils]), .row 0 6 1 33 (fun _ => [.str a0.fName, .own 3 0 0 v1.length, sl 2 TParam.cells a0.fUses, sl 1 cS a0.fSlots, .bool a0.fGen, sl 5 TIns.cells a0.fCode]), .row 0 2 v1.length 75 (row TParam.cells v1)] rfl).mono (by rintro _ _ ⟨_, _, ⟨rfl, rfl⟩, rfl, rfl⟩; exact ⟨rfl, by simp only [List.map_cons, List.map_nil, shiftO_row TParam.cells_pure]; rfl⟩), ?_⟩
 rintro _ _ ⟨rfl, rfl⟩
 refine ⟨rfl, ?_⟩
 refine ⟨rfl, _, fun _ => [.str a0.fName, .own 3 0 0 v1.length, .own 4 0 0 v3.length, sl 1 cS a0.fSlots, .bool a0.fGen, sl 5 TIns.cells a0.fCode], rfl, one_set rfl, ?_⟩
 refine .direct ?_
 refine ⟨rfl, ?_⟩
 refine ⟨rfl, _, rfl, ?_⟩
 obtain ⟨v5, hv6, h⟩ := bind_some h
 refine ⟨fun res h' => res = .own 5 0 0 v5.length ∧ h' = [.row 0 6 1 33 (fun _ => [.str a0.fName, sl 2 TParam.cells a0.fParams, sl 2 TParam.cells a0.fUses, sl 1 cS a0.fSlots, .bool a0.fGen, sl 5 TIns.cells a0.fCode]), .row 0 6 1 33 (fun _ => [.str [], .nils, .nils, .nils, .bool false, .nils]), .row 0 6 1 33 (fun _ => [.str a0.fName, .own 3 0 0 v1.length, .own 4 0 0 v3.length, sl 1 cS a0.fSlots, .bool a0.fGen, sl 5 TIns.cells a0.fCode]), .row 0 2 v1.length 75 (row TParam.cells v1), .row 0 2 v3.length 75 (row TParam.cells v3), .row 0 1 v5.length 9 (row cS v5)], (ACall.frame (ok_CloneS hv6) [.row 0 6 1 33 (fun _ => [.str a0.fName, sl 2 TParam.cells a0.fParams, sl 2 TParam.cells a0.fUses, sl 1 cS a0.fSlots, .bool a0.fGen, sl 5 TIns.cells a0.fCode]), .row 0 6 1 33 (fun _ => [.str [], .nils, .nils, .nils, .bool false, .nils]), .row 0 6 1 33 (fun _ => [.str a0.fName, .own 3 0 0 v1.length, .own 4 0 0 v3.length, sl 1 cS a0.fSlots, .bool a0.fGen, sl 5 TIns.cells a0.fCode]), .row 0 2 v1.length 75 (row TParam.cells v1), .row 0 2 v3.length 75 (row TParam.cells v3)] rfl).mono (by rintro _ _ ⟨_, _, ⟨rfl, rfl⟩, rfl, rfl⟩; exact ⟨rfl, by simp only [List.map_cons, List.map_nil, shiftO_row cS_pure]; rfl⟩), ?_⟩
 rintro _ _ ⟨rfl, rfl⟩
 refine ⟨rfl, ?_⟩
 refine ⟨rfl, _, fun _ => [.str a0.fName, .own 3 0 0 v1.length, .own 4 0 0 v3.length, .own 5 0 0 v5.length, .bool a0.fGen, sl 5 TIns.cells a0.fCode], rfl, one_set rfl, ?_⟩
 refine .direct ?_
 refine ⟨rfl, ?_⟩
 refine ⟨rfl, _, rfl, ?_⟩
 obtain ⟨v7, hv8, h⟩ := bind_some h
 refine ⟨fun res h' => res = .own 6 0 0 v7.length ∧ h' = [.row 0 6 1 33 (fun _ => [.str a0.fName, sl 2 TParam.cells a0.fParams, sl 2 TParam.cells a0.fUses, sl 1 cS a0.fSlots, .bool a0.fGen, sl 5 TIns.cells a0.fCode]), .row 0 6 1 33 (fun _ => [.str [], .nils, .nils, .nils, .bool false, .nils]), .row 0 6 1 33 (fun _ => [.str a0.fName, .own 3 0 0 v1.length, .own 4 0 0 v3.length, .own 5 0 0 v5.length, .bool a0.fGen, sl 5 TIns.cells a0.fCode]), .row 0 2 v1.length 75 (row TParam.cells v1), .row 0 2 v3.length 75 (row TParam.cells v3), .row 0 1 v5.length 9 (row cS v5), .row 0 5 v7.length 53 (row TIns.cells v7)], (ACall.frame (ok_CloneI hv8) [.row 0 6 1 33 (fun _ => [.str a0.fName, sl 2 TParam.cells a0.fParams, sl 2 TParam.cells a0.fUses, sl 1 cS a0.fSlots, .bool a0.fGen, sl 5 TIns.cells a0.fCode]), .row 0 6 1 33 (fun _ => [.str [], .nils, .nils, .nils, .bool false, .nils]), .row 0 6 1 33 (fun _ => [.str a0.fName, .own 3 0 0 v1.length, .own 4 0 0 v3.length, .own 5 0 0 v5.length, .bool a0.fGen, sl 5 TIns.cells a0.fCode]), .row 0 2 v1.length 75 (row TParam.cells v1), .row 0 2 v3.length 75 (row TParam.cells v3), .row 0 1 v5.length 9 (row cS v5)] rfl).mono (by rintro _ _ ⟨_, _, ⟨rfl, rfl⟩, rfl, rfl⟩; exact ⟨rfl, by simp only [List.map_cons, List.map_nil, shiftO_row TIns.cells_pure]; rfl⟩), ?_⟩
 rintro _ _ ⟨rfl, rfl⟩
 refine ⟨rfl, ?_⟩
 refine ⟨rfl, _, fun _ => [.str a0.fName, .own 3 0 0 v1.length, .own 4 0 0 v3.length, .own 5 0 0 v5.length, .bool a0.fGen, .own 6 0 0 v7.length], rfl, one_set rfl, ?_⟩
 refine .direct ?_
 refine ⟨rfl, _, rfl, ?_⟩
 refine ⟨rfl, _, fun _ => [.str a0.fName, .own 3 0 0 v1.length, .own 4 0 0 v3.length, .own 5 0 0 v5.length, .bool a0.fGen, .own 6 0 0 v7.length], rfl, one_set rfl, ?_⟩
 obtain rfl := Option.some.inj h
 refine ⟨rfl, _, rfl, ?_⟩
 exact ⟨[], .agg [.str ((TFunc.mk a0.fName v1 v3 v5 a0.fGen v7).fName), sl 2 TParam.cells ((TFunc.mk a0.fName v1 v3 v5 a0.fGen v7).fParams), sl 2 TParam.cells ((TFunc.mk a0.fName v1 v3 v5 a0.fGen v7).fUses), sl 1 cS ((TFunc.mk a0.fName v1 v3 v5 a0.fGen v7).fSlots), .bool ((TFunc.mk a0.fName v1 v3 v5 a0.fGen v7).fGen), sl 5 TIns.cells ((TFunc.mk a0.fName v1 v3 v5 a0.fGen v7).fCode)], [], by decide, (show 0 ≤ 0 by decide), .agg_l ⟨.str_eq rfl, (fz_frz TParam.cells_pure (by first | decide | simp) rfl shows_all), (fz_frz TParam.cells_pure (by first | decide | simp) rfl shows_all), (fz_frz cS_pure (by first | decide | simp) rfl shows_all), .bool_eq rfl, (fz_frz TIns.cells_pure (by first | decide | simp) rfl shows_all), trivial⟩, trivial, rfl, rfl⟩
def m_s_l25Top (a0 : TFunc) : Option (Bool) :=
 (if (a0.fName.length : Int) > 0 then
 sidx a0.fName 0 >>= fun c2 =>
 some ((c2.toNat : Int) == 47)
 else
 some false)
theorem ok_s_l25Top {a0 : TFunc} {r : Bool} (h : m_s_l25Top a0 = some r) : ACall Try.prog 58 [.agg [.str a0.fName, sl 2 TParam.cells a0.fParams, sl 2 TParam.cells a0.fUses, sl 1 cS a0.fSlots, .bool a0.fGen, sl 5 TIns.cells a0.fCode]] [] (fun res h => res = .bool r ∧ h = []) := by
 refine ACall.of_vc tabT_ok mixed Try.func58 rfl (by kernel_rfl) _ _ _ rfl (by kernel_rfl) ?_
 unfold m_s_l25Top at h
 refine .direct ?_
 refine .direct ?_
 refine ⟨rfl, ?_⟩
 refine ⟨rfl, _, rfl, ?_⟩
 refine splitB.mk (fun hb1 => ?_) (fun hb1 => ?_)
 replace h := T_dec hb1 h
 refine ⟨rfl, ?_⟩
 refine splitB_t ?_
 refine ⟨rfl, _, rfl, ?_⟩
 refine splitB_t ?_
 obtain ⟨c2, hx3, h⟩ := bind_some h
 refine ⟨sidx_bd hx3, c2, sidx_at hx3, ?_⟩
 refine splitB_t ?_
 refine splitB_t ?_
 obtain rfl := Option.some.inj h
 exact ⟨[], .bool ((c2.toNat : Int) == 47), [], by decide, (show 0 ≤ 0 by decide), .bool_eq rfl, trivial, rfl, rfl⟩
 replace h := F_dec hb1 h
 refine splitB_f ?_
 refine splitB_f ?_
 refine splitB_f ?_
 refine splitB_f ?_
 obtain rfl := Option.some.inj h
 exact ⟨[], .bool false, [], by decide, (show 0 ≤ 0 by decide), .bool_eq rfl, trivial, rfl, rfl⟩
def m_s_SlotOf_L2 (a0 : TFunc) (a1 : Str) (y4 : Int) : Option ((Unit) ⊕ Int) :=
 (if y4 < (a0.fSlots.length : Int) then
 idx a0.fSlots y4 >>= fun x8 =>
 (if x8 = a1 then
 some (.inr y4)
 else
 m_s_SlotOf_L2 a0 a1 (W64 (y4 + 1)))
 else
 some (.inl ()))
partial_fixpoint
def m_s_SlotOf (a0 : TFunc) (a1 : Str) : Option (Int) :=
 ((
 m_s_SlotOf_L2 a0 a1 0
 : Option ((Unit) ⊕ Int)) >>= fun o1 => match o1 with
 | .inr r => some r
 | .inl _ =>
 some (-1)
 )
theorem ok_s_SlotOf {a0 : TFunc} {a1 : Str} {r : Int} (h : m_s_SlotOf a0 a1 = some r) : ACall Try.prog 85 [.agg [.str a0.fName, sl 2 TParam.cells a0.fParams, sl 2 TParam.cells a0.fUses, sl 1 cS a0.fSlots, .bool a0.fGen, sl 5 TIns.cells a0.fCode], .str a1] [] (fun res h => res = .int .i64 r ∧ h = []) := by
 refine ACall.of_vc tabT_ok mixed Try.func85 rfl (by kernel_rfl) _ _ _ rfl (by kernel_rfl) ?_
 unfold m_s_SlotOf at h
 refine .direct ?_
 obtain ⟨o1, ho2, hk3⟩ := bind_some h
 replace h := ho2
 refine .cut (fun σ η => .inl () = o1 ∧ σ = [] ∧ η = []) ?_ ?_
 refine .direct ?_
 refine LoopAt.enter [(1, .str a1), (2, .optr 0 0 0 0), (5, .int .i64 0)] [.row 0 6 1 33 (fun _ => [.str a0.fName, sl 2 TParam.cells a0.fParams, sl 2 TParam.cells a0.fUses, sl 1 cS a0.fSlots, .bool a0.fGen, sl 5 TIns.cells a0.fCode])] ⟨[0], by decide, (show 0 ≤ 1 by decide), ⟨.str_eq rfl, .optr_eq rfl ⟨_, _, _, _, rfl⟩ ⟨_, _, _, _, rfl, Nat.zero_lt_one⟩ rfl rfl, .int_eq rfl, trivial⟩, ⟨⟨fun h0 => absurd (show 0 < 0 from h0) (by decide), rfl, .inl rfl, rfl, fun _ _ => ⟨.str_eq rfl, .slc_eq rfl (fun _ _ => rfl), .slc_eq rfl (fun _ _ => rfl), .slc_eq rfl (fun _ _ => rfl), .bool_eq rfl, .slc_eq rfl (fun _ _ => rfl), trivial⟩⟩, trivial⟩⟩ ?_
 refine m_s_SlotOf_L2.partial_correctness a0 a1 (motive := fun y4 o11 => o1 = o11 → LoopAt _ _ [(1, .str a1), (2, .optr 0 0 0 0), (5, .int .i64 y4)] [.row 0 6 1 33 (fun _ => [.str a0.fName, sl 2 TParam.cells a0.fParams, sl 2 TParam.cells a0.fUses, sl 1 cS a0.fSlots, .bool a0.fGen, sl 5 TIns.cells a0.fCode])]) ?_ 0 o1 h rfl
 intro F6 ih5 y4 o11 h hr12
 subst hr12
 refine LoopAt.round ?_
 refine .direct ?_
 refine .direct ?_
 refine ⟨rfl, ?_⟩
 refine ⟨rfl, _, rfl, ?_⟩
 refine splitB.mk (fun hb7 => ?_) (fun hb7 => ?_)
 replace h := T_dec hb7 h
 refine .direct ?_
 refine .direct ?_
 refine ⟨rfl, ?_⟩
 refine ⟨rfl, _, rfl, ?_⟩
 obtain ⟨x8, hx9, h⟩ := bind_some h
 refine ⟨idx_bd hx9, _, (idx_row hx9).trans rfl, ?_⟩
 refine splitB.mk (fun hb10 => ?_) (fun hb10 => ?_)
 replace h := T_beq hb10 h
 refine .direct ?_
 obtain rfl := Option.some.inj h
 replace h := hk3
 obtain rfl := Option.some.inj h
 exact ⟨[], .int .i64 y4, [], by decide, (show 0 ≤ 0 by decide), .int_eq rfl, trivial, rfl, rfl⟩
 replace h := F_beq hb10 h
 exact ⟨[(1, .str a1), (2, .optr 0 0 0 0), (5, .int .i64 (W64 (y4 + 1)))], [.row 0 6 1 33 (fun _ => [.str a0.fName, sl 2 TParam.cells a0.fParams, sl 2 TParam.cells a0.fUses, sl 1 cS a0.fSlots, .bool a0.fGen, sl 5 TIns.cells a0.fCode])], ⟨[0], by decide, (show 0 ≤ 1 by decide), ⟨.str_eq rfl, .optr_eq rfl ⟨_, _, _, _, rfl⟩ ⟨_, _, _, _, rfl, Nat.zero_lt_one⟩ rfl rfl, .int_eq rfl, trivial⟩, ⟨⟨fun h0 => absurd (show 0 < 0 from h0) (by decide), rfl, .inl rfl, rfl, fun _ _ => ⟨.str_eq rfl, .slc_eq rfl (fun _ _ => rfl), .slc_eq rfl (fun _ _ => rfl), .slc_eq rfl (fun _ _ => rfl), .bool_eq rfl, .slc_eq rfl (fun _ _ => rfl), trivial⟩⟩, trivial⟩⟩, ih5 _ _ h rfl⟩
 replace h := F_dec hb7 h
 exact ⟨[], [], ⟨[], by decide, (show 0 ≤ 0 by decide), trivial, trivial⟩, Option.some.inj h, rfl, rfl⟩
 rintro _ _ ⟨rfl, rfl, rfl⟩
 replace h := hk3
 refine .direct ?_
 obtain rfl := Option.some.inj h
 exact ⟨[], .int .i64 (-1), [], by decide, (show 0 ≤ 0 by decide), .int_eq rfl, trivial, rfl, rfl⟩
def m_s_l27Names_L2 (a0 : TFunc) (y6 : Int) : Option ((Unit) ⊕ Bool) :=
 (if y6 < (a0.fSlots.length : Int) then
 idx a0.fSlots y6 >>= fun x10 =>
 m_s_l15Name x10 >>= fun v12 =>
 (if v12 = true then
 (if x10 = ([116, 104, 105, 115] : Str) then
 some (.inr false)
 else
 m_s_SlotOf a0 x10 >>= fun v16 =>
 (if v16 = y6 then
 (if y6 < (a0.fParams.length : Int) then
 idx a0.fParams y6 >>= fun x20 =>
 (if x20.fName = x10 then
 (if y6 ≥ (a0.fParams.length : Int) then
 (if (W64 (y6 - (a0.fParams.length : Int))) < (a0.fUses.length : Int) then
 idx a0.fUses (W64 (y6 - (a0.fParams.length : Int))) >>= fun x25 =>
 (if x25.fName = x10 then
 m_s_l27Names_L2 a0 (W64 (y6 + 1))
 else
 some (.inr false))
 else
 m_s_l27Names_L2 a0 (W64 (y6 + 1)))
 else
 m_s_l27Names_L2 a0 (W64 (y6 + 1)))
 else
 some (.inr false))
 else
 (if y6 ≥ (a0.fParams.length : Int) then
 (if (W64 (y6 - (a0.fParams.length : Int))) < (a0.fUses.length : Int) then
 idx a0.fUses (W64 (y6 - (a0.fParams.length : Int))) >>= fun x32 =>
 (if x32.fName = x10 then
 m_s_l27Names_L2 a0 (W64 (y6 + 1))
 else
 some (.inr false))
 else
 m_s_l27Names_L2 a0 (W64 (y6 + 1)))
 else
 m_s_l27Names_L2 a0 (W64 (y6 + 1))))
 else
 some (.inr false)))
 else
 some (.inr false))
 else
 some (.inl ()))
partial_fixpoint
def m_s_l27Names (a0 : TFunc) : Option (Bool) :=
 (if (a0.fSlots.length : Int) > 600 then
 some false
 else
 (if (W64 ((a0.fParams.length : Int) + (a0.fUses.length : Int))) > (a0.fSlots.length : Int) then
 some false
 else
 ((
 m_s_l27Names_L2 a0 0
 : Option ((Unit) ⊕ Bool)) >>= fun o3 => match o3 with
 | .inr r => some r
 | .inl _ =>
 some true
 )))
theorem ok_s_l27Names {a0 : TFunc} {r : Bool} (h : m_s_l27Names a0 = some r) : ACall Try.prog 57 [.agg [.str a0.fName, sl 2 TParam.cells a0.fParams, sl 2 TParam.cells a0.fUses, sl 1 cS a0.fSlots, .bool a0.fGen, sl 5 TIns.cells a0.fCode]] [] (fun res h => res = .bool r ∧ h = []) := by
 refine ACall.of_vc tabT_ok mixed Try.func57 rfl (by kernel_rfl) _ _ _ rfl (by kernel_rfl) ?_
 unfold m_s_l27Names at h
 refine .direct ?_
 refine .direct ?_
 refine ⟨rfl, ?_⟩
 refine ⟨rfl, _, rfl, ?_⟩
 refine .direct ?_
 refine .direct ?_
 refine ⟨rfl, ?_⟩
 refine ⟨rfl, _, rfl, ?_⟩
 refine splitB.mk (fun hb1 => ?_) (fun hb1 => ?_)
 replace h := T_dec hb1 h
 refine splitB_t ?_
 refine splitB_t ?_
 refine splitB_t ?_
 refine splitB_t ?_
 refine splitB_t ?_
 refine splitB_t ?_
 refine splitB_t ?_
 refine splitB_t ?_
 refine splitB_t ?_
 refine splitB_t ?_
 refine .direct ?_
 obtain rfl := Option.some.inj h
 exact ⟨[], .bool false, [], by decide, (show 0 ≤ 0 by decide), .bool_eq rfl, trivial, rfl, rfl⟩
 replace h := F_dec hb1 h
 refine splitB_f ?_
 refine ⟨rfl, ?_⟩
 refine splitB_f ?_
 refine ⟨rfl, _, rfl, ?_⟩
 refine splitB_f ?_
 refine splitB_f ?_
 refine splitB_f ?_
 refine ⟨rfl, ?_⟩
 refine splitB_f ?_
 refine ⟨rfl, _, rfl, ?_⟩
 refine splitB_f ?_
 refine splitB_f ?_
 refine splitB_f ?_
 refine splitB.mk (fun hb2 => ?_) (fun hb2 => ?_)
 replace h := T_dec hb2 h
 refine .direct ?_
 obtain rfl := Option.some.inj h
 exact ⟨[], .bool false, [], by decide, (show 0 ≤ 0 by decide), .bool_eq rfl, trivial, rfl, rfl⟩
 replace h := F_dec hb2 h
 obtain ⟨o3, ho4, hk5⟩ := bind_some h
 replace h := ho4
 refine .cut (fun σ η => .inl () = o3 ∧ σ = [] ∧ η = []) ?_ ?_
 refine .direct ?_
 refine LoopAt.enter [(1, .optr 0 0 0 0), (3, .int .i64 (a0.fParams.length : Int)), (4, .int .i64 0)] [.row 0 6 1 33 (fun _ => [.str a0.fName, sl 2 TParam.cells a0.fParams, sl 2 TParam.cells a0.fUses, sl 1 cS a0.fSlots, .bool a0.fGen, sl 5 TIns.cells a0.fCode])] ⟨[0], by decide, (show 0 ≤ 1 by decide), ⟨.optr_eq rfl ⟨_, _, _, _, rfl⟩ ⟨_, _, _, _, rfl, Nat.zero_lt_one⟩ rfl rfl, .int_eq rfl, .int_eq rfl, trivial⟩, ⟨⟨fun h0 => absurd (show 0 < 0 from h0) (by decide), rfl, .inl rfl, rfl, fun _ _ => ⟨.str_eq rfl, .slc_eq rfl (fun _ _ => rfl), .slc_eq rfl (fun _ _ => rfl), .slc_eq rfl (fun _ _ => rfl), .bool_eq rfl, .slc_eq rfl (fun _ _ => rfl), trivial⟩⟩, trivial⟩⟩ ?_
 refine m_s_l27Names_L2.partial_correctness a0 (motive := fun y6 o37 => o3 = o37 → LoopAt _ _ [(1, .optr 0 0 0 0), (3, .int .i64 (a0.fParams.length : Int)), (4, .int .i64 y6)] [.row 0 6 1 33 (fun _ => [.str a0.fName, sl 2 TParam.cells a0.fParams, sl 2 TParam.cells a0.fUses, sl 1 cS a0.fSlots, .bool a0.fGen, sl 5 TIns.cells a0.fCode])]) ?_ 0 o3 h rfl
 intro F8 ih7 y6 o37 h hr38
 subst hr38
 refine LoopAt.round ?_
 refine .direct ?_
 refine .direct ?_
 refine ⟨rfl, ?_⟩
 refine ⟨rfl, _, rfl, ?_⟩
 refine splitB.mk (fun hb9 => ?_) (fun hb9 => ?_)
 replace h := T_dec hb9 h
 refine .direct ?_
 refine .direct ?_
 refine ⟨rfl, ?_⟩
 refine ⟨rfl, _, rfl, ?_⟩
 obtain ⟨x10, hx11, h⟩ := bind_some h
 refine ⟨idx_bd hx11, _, (idx_row hx11).trans rfl, ?_⟩
 refine .direct ?_
 obtain ⟨v12, hv13, h⟩ := bind_some h
 refine ⟨_, ACall.pure0 (ok_s_l15Name hv13) _ rfl (fun _ => rfl), ?_⟩
 rintro _ _ ⟨rfl, rfl⟩
 refine splitB.mk (fun hb14 => ?_) (fun hb14 => ?_)
 have hb36 := not_F hb14
 replace h := F_var hb36 h
 refine splitB_t ?_
 refine splitB_t ?_
 refine splitB_t ?_
 refine splitB_t ?_
 refine splitB_t ?_
 refine splitB_t ?_
 refine splitB_t ?_
 refine splitB_t ?_
 refine splitB_t ?_
 refine splitB_t ?_
 refine splitB_t ?_
 refine splitB_t ?_
 refine splitB_t ?_
 refine splitB_t ?_
 refine splitB_t ?_
 refine splitB_t ?_
 refine splitB_t ?_
 refine splitB_t ?_
 refine splitB_t ?_
 refine splitB_t ?_
 refine splitB_t ?_
 refine splitB_t ?_
 refine splitB_t ?_
 refine .direct ?_
 obtain rfl := Option.some.inj h
 replace h := hk5
 obtain rfl := Option.some.inj h
 exact ⟨[], .bool false, [], by decide, (show 0 ≤ 0 by decide), .bool_eq rfl, trivial, rfl, rfl⟩
 have hb36 := not_T hb14
 replace h := T_var hb36 h
 refine splitB_f ?_
 refine splitB_f ?_
 refine splitB.mk (fun hb15 => ?_) (fun hb15 => ?_)
 replace h := T_beq hb15 h
 refine splitB_t ?_
 refine splitB_t ?_
 refine splitB_t ?_
 refine splitB_t ?_
 refine splitB_t ?_
 refine splitB_t ?_
 refine splitB_t ?_
 refine splitB_t ?_
 refine splitB_t ?_
 refine splitB_t ?_
 refine splitB_t ?_
 refine splitB_t ?_
 refine splitB_t ?_
 refine splitB_t ?_
 refine splitB_t ?_
 refine splitB_t ?_
 refine splitB_t ?_
 refine splitB_t ?_
 refine splitB_t ?_
 refine splitB_t ?_
 refine .direct ?_
 obtain rfl := Option.some.inj h
 replace h := hk5
 obtain rfl := Option.some.inj h
 exact ⟨[], .bool false, [], by decide, (show 0 ≤ 0 by decide), .bool_eq rfl, trivial, rfl, rfl⟩
 replace h := F_beq hb15 h
 refine ⟨rfl, _, rfl, ?_⟩
 refine splitB_f ?_
 refine splitB_f ?_
 obtain ⟨v16, hv17, h⟩ := bind_some h
 refine ⟨_, ACall.pure0 (ok_s_SlotOf hv17) _ rfl (fun _ => rfl), ?_⟩
 rintro _ _ ⟨rfl, rfl⟩
 refine splitB_f ?_
 refine splitB_f ?_
 refine splitB_f ?_
 refine splitB.mk (fun hb18 => ?_) (fun hb18 => ?_)
 replace h := T_bne hb18 h
 refine splitB_t ?_
 refine splitB_t ?_
 refine splitB_t ?_
 refine splitB_t ?_
 refine splitB_t ?_
 refine splitB_t ?_
 refine splitB_t ?_
 refine splitB_t ?_
 refine splitB_t ?_
 refine splitB_t ?_
 refine splitB_t ?_
 refine splitB_t ?_
 refine splitB_t ?_
 refine splitB_t ?_
 refine .direct ?_
 obtain rfl := Option.some.inj h
 replace h := hk5
 obtain rfl := Option.some.inj h
 exact ⟨[], .bool false, [], by decide, (show 0 ≤ 0 by decide), .bool_eq rfl, trivial, rfl, rfl⟩
 replace h := F_bne hb18 h
 refine splitB_f ?_
 refine splitB_f ?_
 refine splitB_f ?_
 refine splitB.mk (fun hb19 => ?_) (fun hb19 => ?_)
 replace h := T_dec hb19 h
 refine ⟨rfl, ?_⟩
 refine splitB_t ?_
 refine ⟨rfl, _, rfl, ?_⟩
 refine splitB_t ?_
 refine splitB_t ?_
 obtain ⟨x20, hx21, h⟩ := bind_some h
 refine ⟨idx_bd hx21, _, (idx_row hx21).trans (TParam.cells_eq x20), ?_⟩
 refine splitB_t ?_
 refine splitB_t ?_
 refine splitB_t ?_
 refine splitB_t ?_
 refine splitB_f ?_
 refine splitB_t ?_
 refine splitB_f ?_
 refine splitB.mk (fun hb22 => ?_) (fun hb22 => ?_)
 have hb29 := not_F hb22
 replace h := F_beq hb29 h
 refine splitB_t ?_
 refine splitB_t ?_
 refine splitB_t ?_
 refine splitB_t ?_
 refine splitB_t ?_
 refine splitB_t ?_
 refine splitB_t ?_
 refine splitB_t ?_
 refine .direct ?_
 obtain rfl := Option.some.inj h
 replace h := hk5
 obtain rfl := Option.some.inj h
 exact ⟨[], .bool false, [], by decide, (show 0 ≤ 0 by decide), .bool_eq rfl, trivial, rfl, rfl⟩
 have hb29 := not_T hb22
 replace h := T_beq hb29 h
 refine splitB_f ?_
 refine splitB_f ?_
 refine splitB_f ?_
 refine splitB.mk (fun hb23 => ?_) (fun hb23 => ?_)
 replace h := T_dec hb23 h
 refine splitB_t ?_
 refine splitB_t ?_
 refine splitB_t ?_
 refine ⟨rfl, ?_⟩
 refine splitB_t ?_
 refine ⟨rfl, _, rfl, ?_⟩
 refine splitB_t ?_
 refine splitB_t ?_
 refine splitB_f ?_
 refine splitB_t ?_
 refine splitB_f ?_
 refine splitB.mk (fun hb24 => ?_) (fun hb24 => ?_)
 replace h := T_dec hb24 h
 refine ⟨rfl, ?_⟩
 refine splitB_t ?_
 refine ⟨rfl, _, rfl, ?_⟩
 refine splitB_t ?_
 refine splitB_t ?_
 refine splitB_t ?_
 refine splitB_t ?_
 obtain ⟨x25, hx26, h⟩ := bind_some h
 refine ⟨idx_bd hx26, _, (idx_row hx26).trans (TParam.cells_eq x25), ?_⟩
 refine splitB_t ?_
 refine splitB_t ?_
 refine splitB_t ?_
 refine splitB_t ?_
 refine splitB_f ?_
 refine splitB_t ?_
 refine splitB_f ?_
 refine splitB.mk (fun hb27 => ?_) (fun hb27 => ?_)
 have hb28 := not_F hb27
 replace h := F_beq hb28 h
 refine .direct ?_
 obtain rfl := Option.some.inj h
 replace h := hk5
 obtain rfl := Option.some.inj h
 exact ⟨[], .bool false, [], by decide, (show 0 ≤ 0 by decide), .bool_eq rfl, trivial, rfl, rfl⟩
 have hb28 := not_T hb27
 replace h := T_beq hb28 h
 exact ⟨[(1, .optr 0 0 0 0), (3, .int .i64 (a0.fParams.length : Int)), (4, .int .i64 (W64 (y6 + 1)))], [.row 0 6 1 33 (fun _ => [.str a0.fName, sl 2 TParam.cells a0.fParams, sl 2 TParam.cells a0.fUses, sl 1 cS a0.fSlots, .bool a0.fGen, sl 5 TIns.cells a0.fCode])], ⟨[0], by decide, (show 0 ≤ 1 by decide), ⟨.optr_eq rfl ⟨_, _, _, _, rfl⟩ ⟨_, _, _, _, rfl, Nat.zero_lt_one⟩ rfl rfl, .int_eq rfl, .int_eq rfl, trivial⟩, ⟨⟨fun h0 => absurd (show 0 < 0 from h0) (by decide), rfl, .inl rfl, rfl, fun _ _ => ⟨.str_eq rfl, .slc_eq rfl (fun _ _ => rfl), .slc_eq rfl (fun _ _ => rfl), .slc_eq rfl (fun _ _ => rfl), .bool_eq rfl, .slc_eq rfl (fun _ _ => rfl), trivial⟩⟩, trivial⟩⟩, ih7 _ _ h rfl⟩
 replace h := F_dec hb24 h
 refine splitB_f ?_
 refine splitB_f ?_
 refine splitB_f ?_
 refine splitB_f ?_
 refine splitB_f ?_
 refine splitB_f ?_
 refine splitB_f ?_
 refine splitB_f ?_
 refine splitB_f ?_
 refine splitB_f ?_
 refine splitB_f ?_
 refine splitB_f ?_
 refine splitB_f ?_
 exact ⟨[(1, .optr 0 0 0 0), (3, .int .i64 (a0.fParams.length : Int)), (4, .int .i64 (W64 (y6 + 1)))], [.row 0 6 1 33 (fun _ => [.str a0.fName, sl 2 TParam.cells a0.fParams, sl 2 TParam.cells a0.fUses, sl 1 cS a0.fSlots, .bool a0.fGen, sl 5 TIns.cells a0.fCode])], ⟨[0], by decide, (show 0 ≤ 1 by decide), ⟨.optr_eq rfl ⟨_, _, _, _, rfl⟩ ⟨_, _, _, _, rfl, Nat.zero_lt_one⟩ rfl rfl, .int_eq rfl, .int_eq rfl, trivial⟩, ⟨⟨fun h0 => absurd (show 0 < 0 from h0) (by decide), rfl, .inl rfl, rfl, fun _ _ => ⟨.str_eq rfl, .slc_eq rfl (fun _ _ => rfl), .slc_eq rfl (fun _ _ => rfl), .slc_eq rfl (fun _ _ => rfl), .bool_eq rfl, .slc_eq rfl (fun _ _ => rfl), trivial⟩⟩, trivial⟩⟩, ih7 _ _ h rfl⟩
 replace h := F_dec hb23 h
 refine splitB_f ?_
 refine splitB_f ?_
 refine splitB_f ?_
 refine splitB_f ?_
 refine splitB_f ?_
 refine splitB_f ?_
 refine splitB_f ?_
 refine splitB_f ?_
 refine splitB_f ?_
 refine splitB_f ?_
 refine splitB_f ?_
 refine splitB_f ?_
 refine splitB_f ?_
 refine splitB_f ?_
 refine splitB_f ?_
 refine splitB_f ?_
 refine splitB_f ?_
 refine splitB_f ?_
 refine splitB_f ?_
 refine splitB_f ?_
 refine splitB_f ?_
 refine splitB_f ?_
 refine splitB_f ?_
 exact ⟨[(1, .optr 0 0 0 0), (3, .int .i64 (a0.fParams.length : Int)), (4, .int .i64 (W64 (y6 + 1)))], [.row 0 6 1 33 (fun _ => [.str a0.fName, sl 2 TParam.cells a0.fParams, sl 2 TParam.cells a0.fUses, sl 1 cS a0.fSlots, .bool a0.fGen, sl 5 TIns.cells a0.fCode])], ⟨[0], by decide, (show 0 ≤ 1 by decide), ⟨.optr_eq rfl ⟨_, _, _, _, rfl⟩ ⟨_, _, _, _, rfl, Nat.zero_lt_one⟩ rfl rfl, .int_eq rfl, .int_eq rfl, trivial⟩, ⟨⟨fun h0 => absurd (show 0 < 0 from h0) (by decide), rfl, .inl rfl, rfl, fun _ _ => ⟨.str_eq rfl, .slc_eq rfl (fun _ _ => rfl), .slc_eq rfl (fun _ _ => rfl), .slc_eq rfl (fun _ _ => rfl), .bool_eq rfl, .slc_eq rfl (fun _ _ => rfl), trivial⟩⟩, trivial⟩⟩, ih7 _ _ h rfl⟩
 replace h := F_dec hb19 h
 refine splitB_f ?_
 refine splitB_f ?_
 refine splitB_f ?_
 refine splitB_f ?_
 refine splitB_f ?_
 refine splitB_f ?_
 refine splitB_f ?_
 refine splitB_f ?_
 refine splitB_f ?_
 refine splitB_f ?_
 refine splitB_f ?_
 refine splitB_f ?_
 refine splitB_f ?_
 refine splitB_f ?_
 refine splitB.mk (fun hb30 => ?_) (fun hb30 => ?_)
 replace h := T_dec hb30 h
 refine splitB_t ?_
 refine splitB_t ?_
 refine splitB_t ?_
 refine ⟨rfl, ?_⟩
 refine splitB_t ?_
 refine ⟨rfl, _, rfl, ?_⟩
 refine splitB_t ?_
 refine splitB_t ?_
 refine splitB_f ?_
 refine splitB_t ?_
 refine splitB_f ?_
 refine splitB.mk (fun hb31 => ?_) (fun hb31 => ?_)
 replace h := T_dec hb31 h
 refine ⟨rfl, ?_⟩
 refine splitB_t ?_
 refine ⟨rfl, _, rfl, ?_⟩
 refine splitB_t ?_
 refine splitB_t ?_
 refine splitB_t ?_
 refine splitB_t ?_
 obtain ⟨x32, hx33, h⟩ := bind_some h
 refine ⟨idx_bd hx33, _, (idx_row hx33).trans (TParam.cells_eq x32), ?_⟩
 refine splitB_t ?_
 refine splitB_t ?_
 refine splitB_t ?_
 refine splitB_t ?_
 refine splitB_f ?_
 refine splitB_t ?_
 refine splitB_f ?_
 refine splitB.mk (fun hb34 => ?_) (fun hb34 => ?_)
 have hb35 := not_F hb34
 replace h := F_beq hb35 h
 refine .direct ?_
 obtain rfl := Option.some.inj h
 replace h := hk5
 obtain rfl := Option.some.inj h
 exact ⟨[], .bool false, [], by decide, (show 0 ≤ 0 by decide), .bool_eq rfl, trivial, rfl, rfl⟩
 have hb35 := not_T hb34
 replace h := T_beq hb35 h
 exact ⟨[(1, .optr 0 0 0 0), (3, .int .i64 (a0.fParams.length : Int)), (4, .int .i64 (W64 (y6 + 1)))], [.row 0 6 1 33 (fun _ => [.str a0.fName, sl 2 TParam.cells a0.fParams, sl 2 TParam.cells a0.fUses, sl 1 cS a0.fSlots, .bool a0.fGen, sl 5 TIns.cells a0.fCode])], ⟨[0], by decide, (show 0 ≤ 1 by decide), ⟨.optr_eq rfl ⟨_, _, _, _, rfl⟩ ⟨_, _, _, _, rfl, Nat.zero_lt_one⟩ rfl rfl, .int_eq rfl, .int_eq rfl, trivial⟩, ⟨⟨fun h0 => absurd (show 0 < 0 from h0) (by decide), rfl, .inl rfl, rfl, fun _ _ => ⟨.str_eq rfl, .slc_eq rfl (fun _ _ => rfl), .slc_eq rfl (fun _ _ => rfl), .slc_eq rfl (fun _ _ => rfl), .bool_eq rfl, .slc_eq rfl (fun _ _ => rfl), trivial⟩⟩, trivial⟩⟩, ih7 _ _ h rfl⟩
 replace h := F_dec hb31 h
 refine splitB_f ?_
 refine splitB_f ?_
 refine splitB_f ?_
 refine splitB_f ?_
 refine splitB_f ?_
 refine splitB_f ?_
 refine splitB_f ?_
 refine splitB_f ?_
 refine splitB_f ?_
 refine splitB_f ?_
 refine splitB_f ?_
 refine splitB_f ?_
 refine splitB_f ?_
 exact ⟨[(1, .optr 0 0 0 0), (3, .int .i64 (a0.fParams.length : Int)), (4, .int .i64 (W64 (y6 + 1)))], [.row 0 6 1 33 (fun _ => [.str a0.fName, sl 2 TParam.cells a0.fParams, sl 2 TParam.cells a0.fUses, sl 1 cS a0.fSlots, .bool a0.fGen, sl 5 TIns.cells a0.fCode])], ⟨[0], by decide, (show 0 ≤ 1 by decide), ⟨.optr_eq rfl ⟨_, _, _, _, rfl⟩ ⟨_, _, _, _, rfl, Nat.zero_lt_one⟩ rfl rfl, .int_eq rfl, .int_eq rfl, trivial⟩, ⟨⟨fun h0 => absurd (show 0 < 0 from h0) (by decide), rfl, .inl rfl, rfl, fun _ _ => ⟨.str_eq rfl, .slc_eq rfl (fun _ _ => rfl), .slc_eq rfl (fun _ _ => rfl), .slc_eq rfl (fun _ _ => rfl), .bool_eq rfl, .slc_eq rfl (fun _ _ => rfl), trivial⟩⟩, trivial⟩⟩, ih7 _ _ h rfl⟩
 replace h := F_dec hb30 h
 refine splitB_f ?_
 refine splitB_f ?_
 refine splitB_f ?_
 refine splitB_f ?_
 refine splitB_f ?_
 refine splitB_f ?_
 refine splitB_f ?_
 refine splitB_f ?_
 refine splitB_f ?_
 refine splitB_f ?_
 refine splitB_f ?_
 refine splitB_f ?_
 refine splitB_f ?_
 refine splitB_f ?_
 refine splitB_f ?_
 refine splitB_f ?_
 refine splitB_f ?_
 refine splitB_f ?_
 refine splitB_f ?_
 refine splitB_f ?_
 refine splitB_f ?_
 refine splitB_f ?_
 refine splitB_f ?_
 exact ⟨[(1, .optr 0 0 0 0), (3, .int .i64 (a0.fParams.length : Int)), (4, .int .i64 (W64 (y6 + 1)))], [.row 0 6 1 33 (fun _ => [.str a0.fName, sl 2 TParam.cells a0.fParams, sl 2 TParam.cells a0.fUses, sl 1 cS a0.fSlots, .bool a0.fGen, sl 5 TIns.cells a0.fCode])], ⟨[0], by decide, (show 0 ≤ 1 by decide), ⟨.optr_eq rfl ⟨_, _, _, _, rfl⟩ ⟨_, _, _, _, rfl, Nat.zero_lt_one⟩ rfl rfl, .int_eq rfl, .int_eq rfl, trivial⟩, ⟨⟨fun h0 => absurd (show 0 < 0 from h0) (by decide), rfl, .inl rfl, rfl, fun _ _ => ⟨.str_eq rfl, .slc_eq rfl (fun _ _ => rfl), .slc_eq rfl (fun _ _ => rfl), .slc_eq rfl (fun _ _ => rfl), .bool_eq rfl, .slc_eq rfl (fun _ _ => rfl), trivial⟩⟩, trivial⟩⟩, ih7 _ _ h rfl⟩
 replace h := F_dec hb9 h
 exact ⟨[], [], ⟨[], by decide, (show 0 ≤ 0 by decide), trivial, trivial⟩, Option.some.inj h, rfl, rfl⟩
 rintro _ _ ⟨rfl, rfl, rfl⟩
 replace h := hk5
 refine .direct ?_
 obtain rfl := Option.some.inj h
 exact ⟨[], .bool true, [], by decide, (show 0 ≤ 0 by decide), .bool_eq rfl, trivial, rfl, rfl⟩
def m_s_l30Same_L2 (a0 : TFunc) (a1 : TFunc) (y9 : Int) : Option ((Unit) ⊕ Bool) :=
 (if y9 < (a0.fParams.length : Int) then
 idx a0.fParams y9 >>= fun x13 =>
 idx a1.fParams y9 >>= fun x15 =>
 (if x13 = x15 then
 m_s_l30Same_L2 a0 a1 (W64 (y9 + 1))
 else
 some (.inr false))
 else
 some (.inl ()))
partial_fixpoint
def m_s_l30Same_L4 (a0 : TFunc) (a1 : TFunc) (y24 : Int) : Option ((Unit) ⊕ Bool) :=
 (if y24 < (a0.fUses.length : Int) then
 idx a0.fUses y24 >>= fun x28 =>
 idx a1.fUses y24 >>= fun x30 =>
 (if x28 = x30 then
 m_s_l30Same_L4 a0 a1 (W64 (y24 + 1))
 else
 some (.inr false))
 else
 some (.inl ()))
partial_fixpoint
def m_s_l30Same_L6 (a0 : TFunc) (a1 : TFunc) (y39 : Int) : Option ((Unit) ⊕ Bool) :=
 (if y39 < (a0.fSlots.length : Int) then
 idx a0.fSlots y39 >>= fun x43 =>
 idx a1.fSlots y39 >>= fun x45 =>
 (if x43 = x45 then
 m_s_l30Same_L6 a0 a1 (W64 (y39 + 1))
 else
 some (.inr false))
 else
 some (.inl ()))
partial_fixpoint
def m_s_l30Same (a0 : TFunc) (a1 : TFunc) : Option (Bool) :=
 (if a0.fName = a1.fName then
 (if a0.fGen = a1.fGen then
 (if (a0.fParams.length : Int) = (a1.fParams.length : Int) then
 (if (a0.fUses.length : Int) = (a1.fUses.length : Int) then
 (if (a0.fSlots.length : Int) = (a1.fSlots.length : Int) then
 ((
 m_s_l30Same_L2 a0 a1 0
 : Option ((Unit) ⊕ Bool)) >>= fun o6 => match o6 with
 | .inr r => some r
 | .inl _ =>
 ((
 m_s_l30Same_L4 a0 a1 0
 : Option ((Unit) ⊕ Bool)) >>= fun o21 => match o21 with
 | .inr r => some r
 | .inl _ =>
 ((
 m_s_l30Same_L6 a0 a1 0
 : Option ((Unit) ⊕ Bool)) >>= fun o36 => match o36 with
 | .inr r => some r
 | .inl _ =>
 some true
 )
 )
 )
 else
 some false)
 else
 some false)
 else
 some false)
 else
 some false)
 else
 some false)
theorem ok_s_l30Same {a0 : TFunc} {a1 : TFunc} {r : Bool} (h : m_s_l30Same a0 a1 = some r) : ACall Try.prog 28 [.agg [.str a0.fName, sl 2 TParam.cells a0.fParams, sl 2 TParam.cells a0.fUses, sl 1 cS a0.fSlots, .bool a0.fGen, sl 5 TIns.cells a0.fCode], .agg [.str a1.fName, sl 2 TParam.cells a1.fParams, sl 2 TParam.cells a1.fUses, sl 1 cS a1.fSlots, .bool a1.fGen, sl 5 TIns.cells a1.fCode]] [] (fun res h => res = .bool r ∧ h = []) := by
 refine ACall.of_vc tabT_ok mixed Try.func28 rfl (by kernel_rfl) _ _ _ rfl (by kernel_rfl) ?_
 unfold m_s_l30Same at h
 refine .direct ?_
 refine .direct ?_
 refine .direct ?_
 refine ⟨rfl, ?_⟩
 refine ⟨rfl, _, rfl, ?_⟩
 refine ⟨rfl, ?_⟩
 refine ⟨rfl, _, rfl, ?_⟩
 refine splitB.mk (fun hb1 => ?_) (fun hb1 => ?_)
 have hb52 := not_F hb1
 replace h := F_beq hb52 h
 refine splitB_t ?_
 refine splitB_t ?_
 refine splitB_t ?_
 refine splitB_t ?_
 refine splitB_t ?_
 refine splitB_t ?_
 refine splitB_t ?_
 refine splitB_t ?_
 refine splitB_t ?_
 refine splitB_t ?_
 refine splitB_t ?_
 refine splitB_t ?_
 refine splitB_t ?_
 refine splitB_t ?_
 refine splitB_t ?_
 refine splitB_t ?_
 refine splitB_t ?_
 refine splitB_t ?_
 refine splitB_t ?_
 refine splitB_t ?_
 refine splitB_t ?_
 refine splitB_t ?_
 refine splitB_t ?_
 refine splitB_t ?_
 refine splitB_t ?_
 refine splitB_t ?_
 refine splitB_t ?_
 refine splitB_t ?_
 refine splitB_t ?_
 refine splitB_t ?_
 refine .direct ?_
 obtain rfl := Option.some.inj h
 exact ⟨[], .bool false, [], by decide, (show 0 ≤ 0 by decide), .bool_eq rfl, trivial, rfl, rfl⟩
 have hb52 := not_T hb1
 replace h := T_beq hb52 h
 refine ⟨rfl, ?_⟩
 refine splitB_f ?_
 refine ⟨rfl, _, rfl, ?_⟩
 refine splitB_f ?_
 refine ⟨rfl, ?_⟩
 refine splitB_f ?_
 refine ⟨rfl, _, rfl, ?_⟩
 refine splitB_f ?_
 refine splitB_f ?_
 refine splitB.mk (fun hb2 => ?_) (fun hb2 => ?_)
 have hb51 := not_F hb2
 replace h := F_beq hb51 h
 refine splitB_t ?_
 refine splitB_t ?_
 refine splitB_t ?_
 refine splitB_t ?_
 refine splitB_t ?_
 refine splitB_t ?_
 refine splitB_t ?_
 refine splitB_t ?_
 refine splitB_t ?_
 refine splitB_t ?_
 refine splitB_t ?_
 refine splitB_t ?_
 refine splitB_t ?_
 refine splitB_t ?_
 refine splitB_t ?_
 refine splitB_t ?_
 refine splitB_t ?_
 refine splitB_t ?_
 refine splitB_t ?_
 refine splitB_t ?_
 refine splitB_t ?_
 refine splitB_t ?_
 refine splitB_t ?_
 refine splitB_t ?_
 refine .direct ?_
 obtain rfl := Option.some.inj h
 exact ⟨[], .bool false, [], by decide, (show 0 ≤ 0 by decide), .bool_eq rfl, trivial, rfl, rfl⟩
 have hb51 := not_T hb2
 replace h := T_beq hb51 h
 refine ⟨rfl, ?_⟩
 refine splitB_f ?_
 refine ⟨rfl, _, rfl, ?_⟩
 refine splitB_f ?_
 refine splitB_f ?_
 refine ⟨rfl, ?_⟩
 refine splitB_f ?_
 refine ⟨rfl, _, rfl, ?_⟩
 refine splitB_f ?_
 refine splitB_f ?_
 refine splitB_f ?_
 refine splitB.mk (fun hb3 => ?_) (fun hb3 => ?_)
 replace h := T_bne hb3 h
 refine splitB_t ?_
 refine splitB_t ?_
 refine splitB_t ?_
 refine splitB_t ?_
 refine splitB_t ?_
 refine splitB_t ?_
 refine splitB_t ?_
 refine splitB_t ?_
 refine splitB_t ?_
 refine splitB_t ?_
 refine splitB_t ?_
 refine splitB_t ?_
 refine splitB_t ?_
 refine splitB_t ?_
 refine splitB_t ?_
 refine splitB_t ?_
 refine .direct ?_
 obtain rfl := Option.some.inj h
 exact ⟨[], .bool false, [], by decide, (show 0 ≤ 0 by decide), .bool_eq rfl, trivial, rfl, rfl⟩
 replace h := F_bne hb3 h
 refine ⟨rfl, ?_⟩
 refine splitB_f ?_
 refine ⟨rfl, _, rfl, ?_⟩
 refine splitB_f ?_
 refine splitB_f ?_
 refine ⟨rfl, ?_⟩
 refine splitB_f ?_
 refine ⟨rfl, _, rfl, ?_⟩
 refine splitB_f ?_
 refine splitB_f ?_
 refine splitB_f ?_
 refine splitB.mk (fun hb4 => ?_) (fun hb4 => ?_)
 replace h := T_bne hb4 h
 refine splitB_t ?_
 refine splitB_t ?_
 refine splitB_t ?_
 refine splitB_t ?_
 refine splitB_t ?_
 refine splitB_t ?_
 refine splitB_t ?_
 refine splitB_t ?_
 refine .direct ?_
 obtain rfl := Option.some.inj h
 exact ⟨[], .bool false, [], by decide, (show 0 ≤ 0 by decide), .bool_eq rfl, trivial, rfl, rfl⟩
 replace h := F_bne hb4 h
 refine ⟨rfl, ?_⟩
 refine splitB_f ?_
 refine ⟨rfl, _, rfl, ?_⟩
 refine splitB_f ?_
 refine splitB_f ?_
 refine ⟨rfl, ?_⟩
 refine splitB_f ?_
 refine ⟨rfl, _, rfl, ?_⟩
 refine splitB_f ?_
 refine splitB_f ?_
 refine splitB_f ?_
 refine splitB.mk (fun hb5 => ?_) (fun hb5 => ?_)
 replace h := T_bne hb5 h
 refine .direct ?_
 obtain rfl := Option.some.inj h
 exact ⟨[], .bool false, [], by decide, (show 0 ≤ 0 by decide), .bool_eq rfl, trivial, rfl, rfl⟩
 replace h := F_bne hb5 h
 obtain ⟨o6, ho7, hk8⟩ := bind_some h
 replace h := ho7
 refine .cut (fun σ η => .inl () = o6 ∧ σ = [(2, .optr 0 0 0 0), (3, .optr 1 0 0 0)] ∧ η = [.row 0 6 1 33 (fun _ => [.str a0.fName, sl 2 TParam.cells a0.fParams, sl 2 TParam.cells a0.fUses, sl 1 cS a0.fSlots, .bool a0.fGen, sl 5 TIns.cells a0.fCode]), .row 0 6 1 33 (fun _ => [.str a1.fName, sl 2 TParam.cells a1.fParams, sl 2 TParam.cells a1.fUses, sl 1 cS a1.fSlots, .bool a1.fGen, sl 5 TIns.cells a1.fCode])]) ?_ ?_
 refine .direct ?_
 refine LoopAt.enter [(2, .optr 0 0 0 0), (3, .optr 1 0 0 0), (5, .int .i64 0)] [.row 0 6 1 33 (fun _ => [.str a0.fName, sl 2 TParam.cells a0.fParams, sl 2 TParam.cells a0.fUses, sl 1 cS a0.fSlots, .bool a0.fGen, sl 5 TIns.cells a0.fCode]), .row 0 6 1 33 (fun _ => [.str a1.fName, sl 2 TParam.cells a1.fParams, sl 2 TParam.cells a1.fUses, sl 1 cS a1.fSlots, .bool a1.fGen, sl 5 TIns.cells a1.fCode])] ⟨[0, 1], by decide, (show 0 ≤ 2 by decide), ⟨.optr_eq rfl ⟨_, _, _, _, rfl⟩ ⟨_, _, _, _, rfl, Nat.zero_lt_one⟩ rfl rfl, .optr_eq rfl ⟨_, _, _, _, rfl⟩ ⟨_, _, _, _, rfl, Nat.zero_lt_one⟩ rfl rfl, .int_eq rfl, trivial⟩, ⟨⟨fun h0 => absurd (show 0 < 0 from h0) (by decide), rfl, .inl rfl, rfl, fun _ _ => ⟨.str_eq rfl, .slc_eq rfl (fun _ _ => rfl), .slc_eq rfl (fun _ _ => rfl), .slc_eq rfl (fun _ _ => rfl), .bool_eq rfl, .slc_eq rfl (fun _ _ => rfl), trivial⟩⟩, ⟨fun h0 => absurd (show 1 < 0 from h0) (by decide), rfl, .inl rfl, rfl, fun _ _ => ⟨.str_eq rfl, .slc_eq rfl (fun _ _ => rfl), .slc_eq rfl (fun _ _ => rfl), .slc_eq rfl (fun _ _ => rfl), .bool_eq rfl, .slc_eq rfl (fun _ _ => rfl), trivial⟩⟩, trivial⟩⟩ ?_
 refine m_s_l30Same_L2.partial_correctness a0 a1 (motive := fun y9 o19 => o6 = o19 → LoopAt _ _ [(2, .optr 0 0 0 0), (3, .optr 1 0 0 0), (5, .int .i64 y9)] [.row 0 6 1 33 (fun _ => [.str a0.fName, sl 2 TParam.cells a0.fParams, sl 2 TParam.cells a0.fUses, sl 1 cS a0.fSlots, .bool a0.fGen, sl 5 TIns.cells a0.fCode]), .row 0 6 1 33 (fun _ => [.str a1.fName, sl 2 TParam.cells a1.fParams, sl 2 TParam.cells a1.fUses, sl 1 cS a1.fSlots, .bool a1.fGen, sl 5 TIns.cells a1.fCode])]) ?_ 0 o6 h rfl
 intro F11 ih10 y9 o19 h hr20
 subst hr20
 refine LoopAt.round ?_
 refine .direct ?_
 refine .direct ?_
 refine ⟨rfl, ?_⟩
 refine ⟨rfl, _, rfl, ?_⟩
 refine splitB.mk (fun hb12 => ?_) (fun hb12 => ?_)
 replace h := T_dec hb12 h
 refine .direct ?_
 refine .direct ?_
 refine ⟨rfl, ?_⟩
 refine ⟨rfl, _, rfl, ?_⟩
 obtain ⟨x13, hx14, h⟩ := bind_some h
 refine ⟨idx_bd hx14, _, (idx_row hx14).trans (TParam.cells_eq x13), ?_⟩
 refine ⟨rfl, ?_⟩
 refine ⟨rfl, _, rfl, ?_⟩
 obtain ⟨x15, hx16, h⟩ := bind_some h
 refine ⟨idx_bd hx16, _, (idx_row hx16).trans (TParam.cells_eq x15), ?_⟩
 refine ⟨_, TParam.eq_cells x13 x15, ?_⟩
 refine splitB.mk (fun hb17 => ?_) (fun hb17 => ?_)
 have hb18 := not_F hb17
 replace h := F_dec hb18 h
 refine .direct ?_
 obtain rfl := Option.some.inj h
 replace h := hk8
 obtain rfl := Option.some.inj h
 exact ⟨[], .bool false, [], by decide, (show 0 ≤ 0 by decide), .bool_eq rfl, trivial, rfl, rfl⟩
 have hb18 := not_T hb17
 replace h := T_dec hb18 h
 exact ⟨[(2, .optr 0 0 0 0), (3, .optr 1 0 0 0), (5, .int .i64 (W64 (y9 + 1)))], [.row 0 6 1 33 (fun _ => [.str a0.fName, sl 2 TParam.cells a0.fParams, sl 2 TParam.cells a0.fUses, sl 1 cS a0.fSlots, .bool a0.fGen, sl 5 TIns.cells a0.fCode]), .row 0 6 1 33 (fun _ => [.str a1.fName, sl 2 TParam.cells a1.fParams, sl 2 TParam.cells a1.fUses, sl 1 cS a1.fSlots, .bool a1.fGen, sl 5 TIns.cells a1.fCode])], ⟨[0, 1], by decide, (show 0 ≤ 2 by decide), ⟨.optr_eq rfl ⟨_, _, _, _, rfl⟩ ⟨_, _, _, _, rfl, Nat.zero_lt_one⟩ rfl rfl, .optr_eq rfl ⟨_, _, _, _, rfl⟩ ⟨_, _, _, _, rfl, Nat.zero_lt_one⟩ rfl rfl, .int_eq rfl, trivial⟩, ⟨⟨fun h0 => absurd (show 0 < 0 from h0) (by decide), rfl, .inl rfl, rfl, fun _ _ => ⟨.str_eq rfl, .slc_eq rfl (fun _ _ => rfl), .slc_eq rfl (fun _ _ => rfl), .slc_eq rfl (fun _ _ => rfl), .bool_eq rfl, .slc_eq rfl (fun _ _ => rfl), trivial⟩⟩, ⟨fun h0 => absurd (show 1 < 0 from h0) (by decide), rfl, .inl rfl, rfl, fun _ _ => ⟨.str_eq rfl, .slc_eq rfl (fun _ _ => rfl), .slc_eq rfl (fun _ _ => rfl), .slc_eq rfl (fun _ _ => rfl), .bool_eq rfl, .slc_eq rfl (fun _ _ => rfl), trivial⟩⟩, trivial⟩⟩, ih10 _ _ h rfl⟩
 replace h := F_dec hb12 h
 exact ⟨[(2, .optr 0 0 0 0), (3, .optr 1 0 0 0)], [.row 0 6 1 33 (fun _ => [.str a0.fName, sl 2 TParam.cells a0.fParams, sl 2 TParam.cells a0.fUses, sl 1 cS a0.fSlots, .bool a0.fGen, sl 5 TIns.cells a0.fCode]), .row 0 6 1 33 (fun _ => [.str a1.fName, sl 2 TParam.cells a1.fParams, sl 2 TParam.cells a1.fUses, sl 1 cS a1.fSlots, .bool a1.fGen, sl 5 TIns.cells a1.fCode])], ⟨[0, 1], by decide, (show 0 ≤ 2 by decide), ⟨.optr_eq rfl ⟨_, _, _, _, rfl⟩ ⟨_, _, _, _, rfl, Nat.zero_lt_one⟩ rfl rfl, .optr_eq rfl ⟨_, _, _, _, rfl⟩ ⟨_, _, _, _, rfl, Nat.zero_lt_one⟩ rfl rfl, trivial⟩, ⟨⟨fun h0 => absurd (show 0 < 0 from h0) (by decide), rfl, .inl rfl, rfl, fun _ _ => ⟨.str_eq rfl, .slc_eq rfl (fun _ _ => rfl), .slc_eq rfl (fun _ _ => rfl), .slc_eq rfl (fun _ _ => rfl), .bool_eq rfl, .slc_eq rfl (fun _ _ => rfl), trivial⟩⟩, ⟨fun h0 => absurd (show 1 < 0 from h0) (by decide), rfl, .inl rfl, rfl, fun _ _ => ⟨.str_eq rfl, .slc_eq rfl (fun _ _ => rfl), .slc_eq rfl (fun _ _ => rfl), .slc_eq rfl (fun _ _ => rfl), .bool_eq rfl, .slc_eq rfl (fun _ _ => rfl), trivial⟩⟩, trivial⟩⟩, Option.some.inj h, rfl, rfl⟩
 rintro _ _ ⟨rfl, rfl, rfl⟩
 replace h := hk8
 obtain ⟨o21, ho22, hk23⟩ := bind_some h
 replace h := ho22
 refine .cut (fun σ η => .inl () = o21 ∧ σ = [(2, .optr 0 0 0 0), (3, .optr 1 0 0 0)] ∧ η = [.row 0 6 1 33 (fun _ => [.str a0.fName, sl 2 TParam.cells a0.fParams, sl 2 TParam.cells a0.fUses, sl 1 cS a0.fSlots, .bool a0.fGen, sl 5 TIns.cells a0.fCode]), .row 0 6 1 33 (fun _ => [.str a1.fName, sl 2 TParam.cells a1.fParams, sl 2 TParam.cells a1.fUses, sl 1 cS a1.fSlots, .bool a1.fGen, sl 5 TIns.cells a1.fCode])]) ?_ ?_
 refine .direct ?_
 refine LoopAt.enter [(2, .optr 0 0 0 0), (3, .optr 1 0 0 0), (6, .int .i64 0)] [.row 0 6 1 33 (fun _ => [.str a0.fName, sl 2 TParam.cells a0.fParams, sl 2 TParam.cells a0.fUses, sl 1 cS a0.fSlots, .bool a0.fGen, sl 5 TIns.cells a0.fCode]), .row 0 6 1 33 (fun _ => [.str a1.fName, sl 2 TParam.cells a1.fParams, sl 2 TParam.cells a1.fUses, sl 1 cS a1.fSlots, .bool a1.fGen, sl 5 TIns.cells a1.fCode])] ⟨[0, 1], by decide, (show 0 ≤ 2 by decide), ⟨.optr_eq rfl ⟨_, _, _, _, rfl⟩ ⟨_, _, _, _, rfl, Nat.zero_lt_one⟩ rfl rfl, .optr_eq rfl ⟨_, _, _, _, rfl⟩ ⟨_, _, _, _, rfl, Nat.zero_lt_one⟩ rfl rfl, .int_eq rfl, trivial⟩, ⟨⟨fun h0 => absurd (show 0 < 0 from h0) (by decide), rfl, .inl rfl, rfl, fun _ _ => ⟨.str_eq rfl, .slc_eq rfl (fun _ _ => rfl), .slc_eq rfl (fun _ _ => rfl), .slc_eq rfl (fun _ _ => rfl), .bool_eq rfl, .slc_eq rfl (fun _ _ => rfl), trivial⟩⟩, ⟨fun h0 => absurd (show 1 < 0 from h0) (by decide), rfl, .inl rfl, rfl, fun _ _ => ⟨.str_eq rfl, .slc_eq rfl (fun _ _ => rfl), .slc_eq rfl (fun _ _ => rfl), .slc_eq rfl (fun _ _ => rfl), .bool_eq rfl, .slc_eq rfl (fun _ _ => rfl), trivial⟩⟩, trivial⟩⟩ ?_
 refine m_s_l30Same_L4.partial_correctness a0 a1 (motive := fun y24 o34 => o21 = o34 → LoopAt _ _ [(2, .optr 0 0 0 0), (3, .optr 1 0 0 0), (6, .int .i64 y24)] [.row 0 6 1 33 (fun _ => [.str a0.fName, sl 2 TParam.cells a0.fParams, sl 2 TParam.cells a0.fUses, sl 1 cS a0.fSlots, .bool a0.fGen, sl 5 TIns.cells a0.fCode]), .row 0 6 1 33 (fun _ => [.str a1.fName, sl 2 TParam.cells a1.fParams, sl 2 TParam.cells a1.fUses, sl 1 cS a1.fSlots, .bool a1.fGen, sl 5 TIns.cells a1.fCode])]) ?_ 0 o21 h rfl
 intro F26 ih25 y24 o34 h hr35
 subst hr35
 refine LoopAt.round ?_
 refine .direct ?_
 refine .direct ?_
 refine ⟨rfl, ?_⟩
 refine ⟨rfl, _, rfl, ?_⟩
 refine splitB.mk (fun hb27 => ?_) (fun hb27 => ?_)
 replace h := T_dec hb27 h
 refine .direct ?_
 refine .direct ?_
 refine ⟨rfl, ?_⟩
 refine ⟨rfl, _, rfl, ?_⟩
 obtain ⟨x28, hx29, h⟩ := bind_some h
 refine ⟨idx_bd hx29, _, (idx_row hx29).trans (TParam.cells_eq x28), ?_⟩
 refine ⟨rfl, ?_⟩
 refine ⟨rfl, _, rfl, ?_⟩
 obtain ⟨x30, hx31, h⟩ := bind_some h
 refine ⟨idx_bd hx31, _, (idx_row hx31).trans (TParam.cells_eq x30), ?_⟩
 refine ⟨_, TParam.eq_cells x28 x30, ?_⟩
 refine splitB.mk (fun hb32 => ?_) (fun hb32 => ?_)
 have hb33 := not_F hb32
 replace h := F_dec hb33 h
 refine .direct ?_
 obtain rfl := Option.some.inj h
 replace h := hk23
 obtain rfl := Option.some.inj h
 exact ⟨[], .bool false, [], by decide, (show 0 ≤ 0 by decide), .bool_eq rfl, trivial, rfl, rfl⟩
 have hb33 := not_T hb32
 replace h := T_dec hb33 h
 exact ⟨[(2, .optr 0 0 0 0), (3, .optr 1 0 0 0), (6, .int .i64 (W64 (y24 + 1)))], [.row 0 6 1 33 (fun _ => [.str a0.fName, sl 2 TParam.cells a0.fParams, sl 2 TParam.cells a0.fUses, sl 1 cS a0.fSlots, .bool a0.fGen, sl 5 TIns.cells a0.fCode]), .row 0 6 1 33 (fun _ => [.str a1.fName, sl 2 TParam.cells a1.fParams, sl 2 TParam.cells a1.fUses, sl 1 cS a1.fSlots, .bool a1.fGen, sl 5 TIns.cells a1.fCode])], ⟨[0, 1], by decide, (show 0 ≤ 2 by decide), ⟨.optr_eq rfl ⟨_, _, _, _, rfl⟩ ⟨_, _, _, _, rfl, Nat.zero_lt_one⟩ rfl rfl, .optr_eq rfl ⟨_, _, _, _, rfl⟩ ⟨_, _, _, _, rfl, Nat.zero_lt_one⟩ rfl rfl, .int_eq rfl, trivial⟩, ⟨⟨fun h0 => absurd (show 0 < 0 from h0) (by decide), rfl, .inl rfl, rfl, fun _ _ => ⟨.str_eq rfl, .slc_eq rfl (fun _ _ => rfl), .slc_eq rfl (fun _ _ => rfl), .slc_eq rfl (fun _ _ => rfl), .bool_eq rfl, .slc_eq rfl (fun _ _ => rfl), trivial⟩⟩, ⟨fun h0 => absurd (show 1 < 0 from h0) (by decide), rfl, .inl rfl, rfl, fun _ _ => ⟨.str_eq rfl, .slc_eq rfl (fun _ _ => rfl), .slc_eq rfl (fun _ _ => rfl), .slc_eq rfl (fun _ _ => rfl), .bool_eq rfl, .slc_eq rfl (fun _ _ => rfl), trivial⟩⟩, trivial⟩⟩, ih25 _ _ h rfl⟩
 replace h := F_dec hb27 h
 exact ⟨[(2, .optr 0 0 0 0), (3, .optr 1 0 0 0)], [.row 0 6 1 33 (fun _ => [.str a0.fName, sl 2 TParam.cells a0.fParams, sl 2 TParam.cells a0.fUses, sl 1 cS a0.fSlots, .bool a0.fGen, sl 5 TIns.cells a0.fCode]), .row 0 6 1 33 (fun _ => [.str a1.fName, sl 2 TParam.cells a1.fParams, sl 2 TParam.cells a1.fUses, sl 1 cS a1.fSlots, .bool a1.fGen, sl 5 TIns.cells a1.fCode])], ⟨[0, 1], by decide, (show 0 ≤ 2 by decide), ⟨.optr_eq rfl ⟨_, _, _, _, rfl⟩ ⟨_, _, _, _, rfl, Nat.zero_lt_one⟩ rfl rfl, .optr_eq rfl ⟨_, _, _, _, rfl⟩ ⟨_, _, _, _, rfl, Nat.zero_lt_one⟩ rfl rfl, trivial⟩, ⟨⟨fun h0 => absurd (show 0 < 0 from h0) (by decide), rfl, .inl rfl, rfl, fun _ _ => ⟨.str_eq rfl, .slc_eq rfl (fun _ _ => rfl), .slc_eq rfl (fun _ _ => rfl), .slc_eq rfl (fun _ _ => rfl), .bool_eq rfl, .slc_eq rfl (fun _ _ => rfl), trivial⟩⟩, ⟨fun h0 => absurd (show 1 < 0 from h0) (by decide), rfl, .inl rfl, rfl, fun _ _ => ⟨.str_eq rfl, .slc_eq rfl (fun _ _ => rfl), .slc_eq rfl (fun _ _ => rfl), .slc_eq rfl (fun _ _ => rfl), .bool_eq rfl, .slc_eq rfl (fun _ _ => rfl), trivial⟩⟩, trivial⟩⟩, Option.some.inj h, rfl, rfl⟩
 rintro _ _ ⟨rfl, rfl, rfl⟩
 replace h := hk23
 obtain ⟨o36, ho37, hk38⟩ := bind_some h
 replace h := ho37
 refine .cut (fun σ η => .inl () = o36 ∧ σ = [] ∧ η = []) ?_ ?_
 refine .direct ?_
 refine LoopAt.enter [(2, .optr 0 0 0 0), (3, .optr 1 0 0 0), (7, .int .i64 0)] [.row 0 6 1 33 (fun _ => [.str a0.fName, sl 2 TParam.cells a0.fParams, sl 2 TParam.cells a0.fUses, sl 1 cS a0.fSlots, .bool a0.fGen, sl 5 TIns.cells a0.fCode]), .row 0 6 1 33 (fun _ => [.str a1.fName, sl 2 TParam.cells a1.fParams, sl 2 TParam.cells a1.fUses, sl 1 cS a1.fSlots, .bool a1.fGen, sl 5 TIns.cells a1.fCode])] ⟨[0, 1], by decide, (show 0 ≤ 2 by decide), ⟨.optr_eq rfl ⟨_, _, _, _, rfl⟩ ⟨_, _, _, _, rfl, Nat.zero_lt_one⟩ rfl rfl, .optr_eq rfl ⟨_, _, _, _, rfl⟩ ⟨_, _, _, _, rfl, Nat.zero_lt_one⟩ rfl rfl, .int_eq rfl, trivial⟩, ⟨⟨fun h0 => absurd (show 0 < 0 from h0) (by decide), rfl, .inl rfl, rfl, fun _ _ => ⟨.str_eq rfl, .slc_eq rfl (fun _ _ => rfl), .slc_eq rfl (fun _ _ => rfl), .slc_eq rfl (fun _ _ => rfl), .bool_eq rfl, .slc_eq rfl (fun _ _ => rfl), trivial⟩⟩, ⟨fun h0 => absurd (show 1 < 0 from h0) (by decide), rfl, .inl rfl, rfl, fun _ _ => ⟨.str_eq rfl, .slc_eq rfl (fun _ _ => rfl), .slc_eq rfl (fun _ _ => rfl), .slc_eq rfl (fun _ _ => rfl), .bool_eq rfl, .slc_eq rfl (fun _ _ => rfl), trivial⟩⟩, trivial⟩⟩ ?_
 refine m_s_l30Same_L6.partial_correctness a0 a1 (motive := fun y39 o49 => o36 = o49 → LoopAt _ _ [(2, .optr 0 0 0 0), (3, .optr 1 0 0 0), (7, .int .i64 y39)] [.row 0 6 1 33 (fun _ => [.str a0.fName, sl 2 TParam.cells a0.fParams, sl 2 TParam.cells a0.fUses, sl 1 cS a0.fSlots, .bool a0.fGen, sl 5 TIns.cells a0.fCode]), .row 0 6 1 33 (fun _ => [.str a1.fName, sl 2 TParam.cells a1.fParams, sl 2 TParam.cells a1.fUses, sl 1 cS a1.fSlots, .bool a1.fGen, sl 5 TIns.cells a1.fCode])]) ?_ 0 o36 h rfl
 intro F41 ih40 y39 o49 h hr50
 subst hr50
 refine LoopAt.round ?_
 refine .direct ?_
 refine .direct ?_
 refine ⟨rfl, ?_⟩
 refine ⟨rfl, _, rfl, ?_⟩
 refine splitB.mk (fun hb42 => ?_) (fun hb42 => ?_)
 replace h := T_dec hb42 h
 refine .direct ?_
 refine .direct ?_
 refine ⟨rfl, ?_⟩
 refine ⟨rfl, _, rfl, ?_⟩
 obtain ⟨x43, hx44, h⟩ := bind_some h
 refine ⟨idx_bd hx44, _, (idx_row hx44).trans rfl, ?_⟩
 refine ⟨rfl, ?_⟩
 refine ⟨rfl, _, rfl, ?_⟩
 obtain ⟨x45, hx46, h⟩ := bind_some h
 refine ⟨idx_bd hx46, _, (idx_row hx46).trans rfl, ?_⟩
 refine splitB.mk (fun hb47 => ?_) (fun hb47 => ?_)
 have hb48 := not_F hb47
 replace h := F_beq hb48 h
 refine .direct ?_
 obtain rfl := Option.some.inj h
 replace h := hk38
 obtain rfl := Option.some.inj h
 exact ⟨[], .bool false, [], by decide, (show 0 ≤ 0 by decide), .bool_eq rfl, trivial, rfl, rfl⟩
 have hb48 := not_T hb47
 replace h := T_beq hb48 h
 exact ⟨[(2, .optr 0 0 0 0), (3, .optr 1 0 0 0), (7, .int .i64 (W64 (y39 + 1)))], [.row 0 6 1 33 (fun _ => [.str a0.fName, sl 2 TParam.cells a0.fParams, sl 2 TParam.cells a0.fUses, sl 1 cS a0.fSlots, .bool a0.fGen, sl 5 TIns.cells a0.fCode]), .row 0 6 1 33 (fun _ => [.str a1.fName, sl 2 TParam.cells a1.fParams, sl 2 TParam.cells a1.fUses, sl 1 cS a1.fSlots, .bool a1.fGen, sl 5 TIns.cells a1.fCode])], ⟨[0, 1], by decide, (show 0 ≤ 2 by decide), ⟨.optr_eq rfl ⟨_, _, _, _, rfl⟩ ⟨_, _, _, _, rfl, Nat.zero_lt_one⟩ rfl rfl, .optr_eq rfl ⟨_, _, _, _, rfl⟩ ⟨_, _, _, _, rfl, Nat.zero_lt_one⟩ rfl rfl, .int_eq rfl, trivial⟩, ⟨⟨fun h0 => absurd (show 0 < 0 from h0) (by decide), rfl, .inl rfl, rfl, fun _ _ => ⟨.str_eq rfl, .slc_eq rfl (fun _ _ => rfl), .slc_eq rfl (fun _ _ => rfl), .slc_eq rfl (fun _ _ => rfl), .bool_eq rfl, .slc_eq rfl (fun _ _ => rfl), trivial⟩⟩, ⟨fun h0 => absurd (show 1 < 0 from h0) (by decide), rfl, .inl rfl, rfl, fun _ _ => ⟨.str_eq rfl, .slc_eq rfl (fun _ _ => rfl), .slc_eq rfl (fun _ _ => rfl), .slc_eq rfl (fun _ _ => rfl), .bool_eq rfl, .slc_eq rfl (fun _ _ => rfl), trivial⟩⟩, trivial⟩⟩, ih40 _ _ h rfl⟩
 replace h := F_dec hb42 h
 exact ⟨[], [], ⟨[], by decide, (show 0 ≤ 0 by decide), trivial, trivial⟩, Option.some.inj h, rfl, rfl⟩
 rintro _ _ ⟨rfl, rfl, rfl⟩
 replace h := hk38
 refine .direct ?_
 obtain rfl := Option.some.inj h
 exact ⟨[], .bool true, [], by decide, (show 0 ≤ 0 by decide), .bool_eq rfl, trivial, rfl, rfl⟩
def m_s_l30Copy (a0 : TFunc) : Option (TFunc) :=
 (
 lapp 24 ([] : List TParam) a0.fParams >>= fun l5 =>
 some l5
 : Option ((List TParam))) >>= fun l1 =>
 (
 lapp 24 ([] : List TParam) a0.fUses >>= fun l11 =>
 some l11
 : Option ((List TParam))) >>= fun l7 =>
 (
 lapp 16 ([] : List Str) a0.fSlots >>= fun l17 =>
 some l17
 : Option ((List Str))) >>= fun l13 =>
 lapp 56 ([] : List TIns) a0.fCode >>= fun l19 =>
 some (TFunc.mk a0.fName l1 l7 l13 a0.fGen l19)
theorem ok_s_l30Copy {a0 : TFunc} {r : TFunc} (h : m_s_l30Copy a0 = some r) : ACall Try.prog 46 [.agg [.str a0.fName, sl 2 TParam.cells a0.fParams, sl 2 TParam.cells a0.fUses, sl 1 cS a0.fSlots, .bool a0.fGen, sl 5 TIns.cells a0.fCode]] [] (fun res h => res = .agg [.str r.fName, sl 2 TParam.cells r.fParams, sl 2 TParam.cells r.fUses, sl 1 cS r.fSlots, .bool r.fGen, sl 5 TIns.cells r.fCode] ∧ h = []) := by
 refine ACall.of_vc tabT_ok mixed Try.func46 rfl (by kernel_rfl) _ _ _ rfl (by kernel_rfl) ?_
 unfold m_s_l30Copy at h
 refine .direct ?_
 obtain ⟨o2, ho3, hk4⟩ := bind_some h
 replace h := ho3
 refine .cut (fun σ η => ∃ l1, l1 = o2 ∧ σ = [(1, .optr 0 0 0 0), (2, .optr 2 0 0 0)] ∧ η = [.row 0 6 1 33 (fun _ => [.str a0.fName, .own 1 0 0 l1.length, sl 2 TParam.cells a0.fUses, sl 1 cS a0.fSlots, .bool a0.fGen, sl 5 TIns.cells a0.fCode]), .row 0 2 l1.length 75 (row TParam.cells l1), .row 0 6 1 33 (fun _ => [.str [], .nils, .nils, .nils, .bool false, .nils])]) ?_ ?_
 refine ⟨row TParam.cells ([] : List TParam), row_lit TParam.cells ([] : List TParam) rfl (cll_refl rfl), ?_⟩
 refine ⟨rfl, ?_⟩
 refine ⟨rfl, _, rfl, ?_⟩
 obtain ⟨l5, hx6, h⟩ := bind_some h
 refine ⟨rfl, lapp_bd hx6, l5.length, row TParam.cells l5, lapp_len hx6, lapp_row hx6 shows_all src_slc, ?_⟩
 refine ⟨rfl, ?_⟩
 refine ⟨rfl, _, fun _ => [.str a0.fName, .own 2 (0 + 1) 0 l5.length, sl 2 TParam.cells a0.fUses, sl 1 cS a0.fSlots, .bool a0.fGen, sl 5 TIns.cells a0.fCode], rfl, one_set rfl, ?_⟩
 exact ⟨[(1, .optr 0 0 0 0), (2, .optr 2 0 0 0)], [.row 0 6 1 33 (fun _ => [.str a0.fName, .own 1 0 0 l5.length, sl 2 TParam.cells a0.fUses, sl 1 cS a0.fSlots, .bool a0.fGen, sl 5 TIns.cells a0.fCode]), .row 0 2 l5.length 75 (row TParam.cells l5), .row 0 6 1 33 (fun _ => [.str [], .nils, .nils, .nils, .bool false, .nils])], ⟨[0, 2, 1], by decide, (show 0 ≤ 3 by decide), ⟨.optr_eq rfl ⟨_, _, _, _, rfl⟩ ⟨_, _, _, _, rfl, Nat.zero_lt_one⟩ rfl rfl, .optr_eq rfl ⟨_, _, _, _, rfl⟩ ⟨_, _, _, _, rfl, Nat.zero_lt_one⟩ rfl rfl, trivial⟩, ⟨⟨fun h0 => absurd (show 0 < 0 from h0) (by decide), rfl, .inl rfl, rfl, fun _ _ => ⟨.str_eq rfl, .own_eq rfl ⟨_, _, _, _, rfl⟩ ⟨_, _, _, _, rfl, Nat.le_of_eq (Nat.zero_add _)⟩ rfl rfl, .slc_eq rfl (fun _ _ => rfl), .slc_eq rfl (fun _ _ => rfl), .bool_eq rfl, .slc_eq rfl (fun _ _ => rfl), trivial⟩⟩, ⟨fun h0 => absurd (show 1 < 0 from h0) (by decide), rfl, .inl rfl, rfl, fz_row TParam.cells_pure⟩, ⟨fun h0 => absurd (show 2 < 0 from h0) (by decide), rfl, .inl rfl, rfl, fun _ _ => ⟨.str_eq rfl, .nils, .nils, .nils, .bool_eq rfl, .nils, trivial⟩⟩, trivial⟩⟩, l5, Option.some.inj h, rfl, rfl⟩
 rintro _ _ ⟨l1, rfl, rfl, rfl⟩
 replace h := hk4
 obtain ⟨o8, ho9, hk10⟩ := bind_some h
 replace h := ho9
 refine .cut (fun σ η => ∃ l7, l7 = o8 ∧ σ = [(1, .optr 0 0 0 0), (2, .optr 3 0 0 0)] ∧ η = [.row 0 6 1 33 (fun _ => [.str a0.fName, .own 1 0 0 l1.length, .own 2 0 0 l7.length, sl 1 cS a0.fSlots, .bool a0.fGen, sl 5 TIns.cells a0.fCode]), .row 0 2 l1.length 75 (row TParam.cells l1), .row 0 2 l7.length 75 (row TParam.cells l7), .row 0 6 1 33 (fun _ => [.str [], .nils, .nils, .nils, .bool false, .nils])]) ?_ ?_
 refine ⟨row TParam.cells ([] : List TParam), row_lit TParam.cells ([] : List TParam) rfl (cll_refl rfl), ?_⟩
 refine ⟨rfl, ?_⟩
 refine ⟨rfl, _, rfl, ?_⟩
 obtain ⟨l11, hx12, h⟩ := bind_some h
 refine ⟨rfl, lapp_bd hx12, l11.length, row TParam.cells l11, lapp_len hx12, lapp_row hx12 shows_all src_slc, ?_⟩
 refine ⟨rfl, ?_⟩
 refine ⟨rfl, _, fun _ => [.str a0.fName, .own 1 0 0 l1.length, .own 3 (0 + 1) 0 l11.length, sl 1 cS a0.fSlots, .bool a0.fGen, sl 5 TIns.cells a0.fCode], rfl, one_set rfl, ?_⟩
 exact ⟨[(1, .optr 0 0 0 0), (2, .optr 3 0 0 0)], [.row 0 6 1 33 (fun _ => [.str a0.fName, .own 1 0 0 l1.length, .own 2 0 0 l11.length, sl 1 cS a0.fSlots, .bool a0.fGen, sl 5 TIns.cells a0.fCode]), .row 0 2 l1.length 75 (row TParam.cells l1), .row 0 2 l11.length 75 (row TParam.cells l11), .row 0 6 1 33 (fun _ => [.str [], .nils, .nils, .nils, .bool false, .nils])], ⟨[0, 1, 3, 2], by decide, (show 0 ≤ 4 by decide), ⟨.optr_eq rfl ⟨_, _, _, _, rfl⟩ ⟨_, _, _, _, rfl, Nat.zero_lt_one⟩ rfl rfl, .optr_eq rfl ⟨_, _, _, _, rfl⟩ ⟨_, _, _, _, rfl, Nat.zero_lt_one⟩ rfl rfl, trivial⟩, ⟨⟨fun h0 => absurd (show 0 < 0 from h0) (by decide), rfl, .inl rfl, rfl, fun _ _ => ⟨.str_eq rfl, .own_eq rfl ⟨_, _, _, _, rfl⟩ ⟨_, _, _, _, rfl, Nat.le_of_eq (Nat.zero_add _)⟩ rfl rfl, .own_eq rfl ⟨_, _, _, _, rfl⟩ ⟨_, _, _, _, rfl, Nat.le_of_eq (Nat.zero_add _)⟩ rfl rfl, .slc_eq rfl (fun _ _ => rfl), .bool_eq rfl, .slc_eq rfl (fun _ _ => rfl), trivial⟩⟩, ⟨fun h0 => absurd (show 1 < 0 from h0) (by decide), rfl, .inl rfl, rfl, fz_row TParam.cells_pure⟩, ⟨fun h0 => absurd (show 2 < 0 from h0) (by decide), rfl, .inl rfl, rfl, fz_row TParam.cells_pure⟩, ⟨fun h0 => absurd (show 3 < 0 from h0) (by decide), rfl, .inl rfl, rfl, fun _ _ => ⟨.str_eq rfl, .nils, .nils, .nils, .bool_eq rfl, .nils, trivial⟩⟩, trivial⟩⟩, l11, Option.some.inj h, rfl, rfl⟩
 rintro _ _ ⟨l7, rfl, rfl, rfl⟩
 replace h := hk10
 obtain ⟨o14, ho15, hk16⟩ := bind_some h
 replace h := ho15
 refine .cut (fun σ η => ∃ l13, l13 = o14 ∧ σ = [(1, .optr 0 0 0 0), (2, .optr 4 0 0 0)] ∧ η = [.row 0 6 1 33 (fun _ => [.str a0.fName, .own 1 0 0 l1.length, .own 2 0 0 l7.length, .own 3 0 0 l13.length, .bool a0.fGen, sl 5 TIns.cells a0.fCode]), .row 0 2 l1.length 75 (row TParam.cells l1), .row 0 2 l7.length 75 (row TParam.cells l7), .row 0 1 l13.length 9 (row cS l13), .row 0 6 1 33 (fun _ => [.str [], .nils, .nils, .nils, .bool false, .nils])]) ?_ ?_
 refine ⟨row cS ([] : List Str), row_lit cS ([] : List Str) rfl (cll_refl rfl), ?_⟩
 refine ⟨rfl, ?_⟩
 refine ⟨rfl, _, rfl, ?_⟩
 obtain ⟨l17, hx18, h⟩ := bind_some h
 refine ⟨rfl, lapp_bd hx18, l17.length, row cS l17, lapp_len hx18, lapp_row hx18 shows_all src_slc, ?_⟩
 refine ⟨rfl, ?_⟩
 refine ⟨rfl, _, fun _ => [.str a0.fName, .own 1 0 0 l1.length, .own 2 0 0 l7.length, .own 4 (0 + 1) 0 l17.length, .bool a0.fGen, sl 5 TIns.cells a0.fCode], rfl, one_set rfl, ?_⟩
 exact ⟨[(1, .optr 0 0 0 0), (2, .optr 4 0 0 0)], [.row 0 6 1 33 (fun _ => [.str a0.fName, .own 1 0 0 l1.length, .own 2 0 0 l7.length, .own 3 0 0 l17.length, .bool a0.fGen, sl 5 TIns.cells a0.fCode]), .row 0 2 l1.length 75 (row TParam.cells l1), .row 0 2 l7.length 75 (row TParam.cells l7), .row 0 1 l17.length 9 (row cS l17), .row 0 6 1 33 (fun _ => [.str [], .nils, .nils, .nils, .bool false, .nils])], ⟨[0, 1, 2, 4, 3], by decide, (show 0 ≤ 5 by decide), ⟨.optr_eq rfl ⟨_, _, _, _, rfl⟩ ⟨_, _, _, _, rfl, Nat.zero_lt_one⟩ rfl rfl, .optr_eq rfl ⟨_, _, _, _, rfl⟩ ⟨_, _, _, _, rfl, Nat.zero_lt_one⟩ rfl rfl, trivial⟩, ⟨⟨fun h0 => absurd (show 0 < 0 from h0) (by decide), rfl, .inl rfl, rfl, fun _ _ => ⟨.str_eq rfl, .own_eq rfl ⟨_, _, _, _, rfl⟩ ⟨_, _, _, _, rfl, Nat.le_of_eq (Nat.zero_add _)⟩ rfl rfl, .own_eq rfl ⟨_, _, _, _, rfl⟩ ⟨_, _, _, _, rfl, Nat.le_of_eq (Nat.zero_add _)⟩ rfl rfl, .own_eq rfl ⟨_, _, _, _, rfl⟩ ⟨_, _, _, _, rfl, Nat.le_of_eq (Nat.zero_add _)⟩ rfl rfl, .bool_eq rfl, .slc_eq rfl (fun _ _ => rfl), trivial⟩⟩, ⟨fun h0 => absurd (show 1 < 0 from h0) (by decide), rfl, .inl rfl, rfl, fz_row TParam.cells_pure⟩, ⟨fun h0 => absurd (show 2 < 0 from h0) (by decide), rfl, .inl rfl, rfl, fz_row TParam.cells_pure⟩, ⟨fun h0 => absurd (show 3 < 0 from h0) (by decide), rfl, .inl rfl, rfl, fz_row cS_pure⟩, ⟨fun h0 => absurd (show 4 < 0 from h0) (by decide), rfl, .inl rfl, rfl, fun _ _ => ⟨.str_eq rfl, .nils, .nils, .nils, .bool_eq rfl, .nils, trivial⟩⟩, trivial⟩⟩, l17, Option.some.inj h, rfl, rfl⟩
 rintro _ _ ⟨l13, rfl, rfl, rfl⟩
 replace h := hk16
 refine .direct ?_
 refine ⟨row TIns.cells ([] : List TIns), row_lit TIns.cells ([] : List TIns) rfl (cll_refl rfl), ?_⟩
 refine ⟨rfl, ?_⟩
 refine ⟨rfl, _, rfl, ?_⟩
 obtain ⟨l19, hx20, h⟩ := bind_some h
 refine ⟨rfl, lapp_bd hx20, l19.length, row TIns.cells l19, lapp_len hx20, lapp_row hx20 shows_all src_slc, ?_⟩
 refine ⟨rfl, ?_⟩
 refine ⟨rfl, _, fun _ => [.str a0.fName, .own 1 0 0 l1.length, .own 2 0 0 l7.length, .own 3 0 0 l13.length, .bool a0.fGen, .own 5 (0 + 1) 0 l19.length], rfl, one_set rfl, ?_⟩
 refine .direct ?_
 refine ⟨rfl, _, rfl, ?_⟩
 refine ⟨rfl, _, fun _ => [.str a0.fName, .own 1 0 0 l1.length, .own 2 0 0 l7.length, .own 3 0 0 l13.length, .bool a0.fGen, .own 5 (0 + 1) 0 l19.length], rfl, one_set rfl, ?_⟩
 obtain rfl := Option.some.inj h
 refine ⟨rfl, _, rfl, ?_⟩
 exact ⟨[], .agg [.str ((TFunc.mk a0.fName l1 l7 l13 a0.fGen l19).fName), sl 2 TParam.cells ((TFunc.mk a0.fName l1 l7 l13 a0.fGen l19).fParams), sl 2 TParam.cells ((TFunc.mk a0.fName l1 l7 l13 a0.fGen l19).fUses), sl 1 cS ((TFunc.mk a0.fName l1 l7 l13 a0.fGen l19).fSlots), .bool ((TFunc.mk a0.fName l1 l7 l13 a0.fGen l19).fGen), sl 5 TIns.cells ((TFunc.mk a0.fName l1 l7 l13 a0.fGen l19).fCode)], [], by decide, (show 0 ≤ 0 by decide), .agg_l ⟨.str_eq rfl, (fz_frz TParam.cells_pure (by first | decide | simp) rfl shows_all), (fz_frz TParam.cells_pure (by first | decide | simp) rfl shows_all), (fz_frz cS_pure (by first | decide | simp) rfl shows_all), .bool_eq rfl, (fz_frz TIns.cells_pure (by first | decide | simp) rfl shows_all), trivial⟩, trivial, rfl, rfl⟩
end Go.Am
