/- Models of Go functions, and their walks. (Printed by tools/mg.py.) -/
import Derived.Test.YtagfpmbccfghnaaDoorF2
import Derived.Test.YtagfpmbccfghnaaDoorL1
set_option linter.unusedVariables false
set_option linter.unusedSimpArgs false
namespace Go.Am
open Go Go.RowKit Go.Proofs

def m69 (a0 : Str) : Option (Int × Bool) :=
  m98 a0 (-1000000000) 1000000000 >>= fun (v1, v2) =>
  some (v1, v2)
theorem ok69 {a0 : Str} {r : Int × Bool} (h : m69 a0 = some r) : ACall Tryd.prog 69 [.str a0] [] (fun res h => res = .tup [.int .i64 r.1, .bool r.2] ∧ h = []) := by
  refine ACall.of_vc tabT_ok mixed Tryd.func69 rfl (by kernel_rfl) _ _ _ rfl (by kernel_rfl) ?_
  unfold m69 at h
  refine .direct ?_
  refine .direct ?_
  obtain ⟨⟨v1, v2⟩, hv3, h⟩ := bind_some h
  refine ⟨_, ACall.pure0 (ok98 hv3) _ rfl (fun _ => rfl), ?_⟩
  rintro _ _ ⟨rfl, rfl⟩
  obtain rfl := Option.some.inj h
  exact ⟨[], .tup [.int .i64 v1, .bool v2], [], by decide, (show 0 ≤ 0 by decide), .tup_l ⟨.int_eq rfl, .bool_eq rfl, trivial⟩, trivial, rfl, rfl⟩
def m55 (a0 : TKey) : Option (Bool) :=
  (if a0.fText = true then
    m69 a0.fStr >>= fun (v5, v6) =>
    (if a0.fNum = 0 then
      (if (a0.fStr.length : Int) ≤ 400 then
        some (!v6)
      else
        some false)
    else
      some false)
  else
    (if a0.fStr = ([] : Str) then
      m92 a0.fNum (-1000000000) 1000000000 >>= fun v3 =>
      some v3
    else
      some false))
theorem ok55 {a0 : TKey} {r : Bool} (h : m55 a0 = some r) : ACall Tryd.prog 55 [.agg [.bool a0.fText, .int .i64 a0.fNum, .str a0.fStr]] [] (fun res h => res = .bool r ∧ h = []) := by
  refine ACall.of_vc tabT_ok mixed Tryd.func55 rfl (by kernel_rfl) _ _ _ rfl (by kernel_rfl) ?_
  unfold m55 at h
  refine .direct ?_
  refine .direct ?_
  refine .direct ?_
  refine ⟨rfl, ?_⟩
  refine ⟨rfl, _, rfl, ?_⟩
  refine splitB.mk (fun hb1 => ?_) (fun hb1 => ?_)
  · have hb10 := not_F hb1
    replace h := F_var hb10 h
    refine .direct ?_
    refine ⟨rfl, ?_⟩
    refine ⟨rfl, _, rfl, ?_⟩
    refine splitB.mk (fun hb2 => ?_) (fun hb2 => ?_)
    · replace h := T_beq hb2 h
      refine ⟨rfl, ?_⟩
      refine splitB_t ?_
      refine ⟨rfl, _, rfl, ?_⟩
      refine splitB_t ?_
      obtain ⟨v3, hv4, h⟩ := bind_some h
      refine ⟨_, ACall.pure0 (ok92 hv4) _ rfl (fun _ => rfl), ?_⟩
      rintro _ _ ⟨rfl, rfl⟩
      refine splitB_t ?_
      obtain rfl := Option.some.inj h
      exact ⟨[], .bool v3, [], by decide, (show 0 ≤ 0 by decide), .bool_eq rfl, trivial, rfl, rfl⟩
    · replace h := F_beq hb2 h
      refine splitB_f ?_
      refine splitB_f ?_
      refine splitB_f ?_
      obtain rfl := Option.some.inj h
      exact ⟨[], .bool false, [], by decide, (show 0 ≤ 0 by decide), .bool_eq rfl, trivial, rfl, rfl⟩
  · have hb10 := not_T hb1
    replace h := T_var hb10 h
    refine .direct ?_
    refine ⟨rfl, ?_⟩
    refine ⟨rfl, _, rfl, ?_⟩
    obtain ⟨⟨v5, v6⟩, hv7, h⟩ := bind_some h
    refine ⟨_, ACall.pure0 (ok69 hv7) _ rfl (fun _ => rfl), ?_⟩
    rintro _ _ ⟨rfl, rfl⟩
    refine .direct ?_
    refine ⟨rfl, ?_⟩
    refine ⟨rfl, _, rfl, ?_⟩
    refine splitB.mk (fun hb8 => ?_) (fun hb8 => ?_)
    · replace h := T_beq hb8 h
      refine ⟨rfl, ?_⟩
      refine splitB_t ?_
      refine ⟨rfl, _, rfl, ?_⟩
      refine splitB_t ?_
      refine splitB_t ?_
      refine splitB_t ?_
      refine splitB.mk (fun hb9 => ?_) (fun hb9 => ?_)
      · replace h := T_dec hb9 h
        refine splitB_t ?_
        refine splitB_t ?_
        obtain rfl := Option.some.inj h
        exact ⟨[], .bool (!v6), [], by decide, (show 0 ≤ 0 by decide), .bool_eq rfl, trivial, rfl, rfl⟩
      · replace h := F_dec hb9 h
        refine splitB_f ?_
        refine splitB_f ?_
        obtain rfl := Option.some.inj h
        exact ⟨[], .bool false, [], by decide, (show 0 ≤ 0 by decide), .bool_eq rfl, trivial, rfl, rfl⟩
    · replace h := F_beq hb8 h
      refine splitB_f ?_
      refine splitB_f ?_
      refine splitB_f ?_
      refine splitB_f ?_
      refine splitB_f ?_
      refine splitB_f ?_
      refine splitB_f ?_
      obtain rfl := Option.some.inj h
      exact ⟨[], .bool false, [], by decide, (show 0 ≤ 0 by decide), .bool_eq rfl, trivial, rfl, rfl⟩
def m41 (a0 : Int) : Option (Str) :=
  m73 a0 >>= fun v1 =>
  some v1
theorem ok41 {a0 : Int} {r : Str} (h : m41 a0 = some r) : ACall Tryd.prog 41 [.int .i64 a0] [] (fun res h => res = .str r ∧ h = []) := by
  refine ACall.of_vc tabT_ok mixed Tryd.func41 rfl (by kernel_rfl) _ _ _ rfl (by kernel_rfl) ?_
  unfold m41 at h
  refine .direct ?_
  refine .direct ?_
  obtain ⟨v1, hv2, h⟩ := bind_some h
  refine ⟨_, ACall.pure0 (ok73 hv2) _ rfl (fun _ => rfl), ?_⟩
  rintro _ _ ⟨rfl, rfl⟩
  obtain rfl := Option.some.inj h
  exact ⟨[], .str v1, [], by decide, (show 0 ≤ 0 by decide), .str_eq rfl, trivial, rfl, rfl⟩
def m24 (a0 : TValue) (a1 : TKey) (a2 : TValue) : Option (TValue × Bool) :=
  m46 a0 >>= fun v1 =>
  (if a0.fKind = 4 then
    m55 a1 >>= fun v4 =>
    (if v4 = true then
      m46 a2 >>= fun v7 =>
      m56 v1 a1 v7 >>= fun v9 =>
      some (v9, true)
    else
      some (v1, false))
  else
    some (v1, false))
theorem ok24 {a0 : TValue} {a1 : TKey} {a2 : TValue} {r : TValue × Bool} (h : m24 a0 a1 a2 = some r) : ACall Tryd.prog 24 [.agg [.int .i64 a0.fKind, .int .i64 a0.fNum, .str a0.fStr, .int .i64 a0.fNext, sl 8 TEntry.cells a0.fItems], .agg [.bool a1.fText, .int .i64 a1.fNum, .str a1.fStr], .agg [.int .i64 a2.fKind, .int .i64 a2.fNum, .str a2.fStr, .int .i64 a2.fNext, sl 8 TEntry.cells a2.fItems]] [] (fun res h => res = .tup [.agg [.int .i64 r.1.fKind, .int .i64 r.1.fNum, .str r.1.fStr, .int .i64 r.1.fNext, sl 8 TEntry.cells r.1.fItems], .bool r.2] ∧ h = []) := by
  refine ACall.of_vc tabT_ok mixed Tryd.func24 rfl (by kernel_rfl) _ _ _ rfl (by kernel_rfl) ?_
  unfold m24 at h
  refine .direct ?_
  refine .direct ?_
  refine ⟨rfl, _, rfl, ?_⟩
  obtain ⟨v1, hv2, h⟩ := bind_some h
  refine ⟨fun res h' => res = .agg [.int .i64 v1.fKind, .int .i64 v1.fNum, .str v1.fStr, .int .i64 v1.fNext, .own 4 0 0 v1.fItems.length] ∧ h' = [.row 0 5 1 40 (fun _ => [.int .i64 a0.fKind, .int .i64 a0.fNum, .str a0.fStr, .int .i64 a0.fNext, sl 8 TEntry.cells a0.fItems]), .row 0 3 1 44 (fun _ => [.bool a1.fText, .int .i64 a1.fNum, .str a1.fStr]), .row 0 5 1 40 (fun _ => [.int .i64 a2.fKind, .int .i64 a2.fNum, .str a2.fStr, .int .i64 a2.fNext, sl 8 TEntry.cells a2.fItems]), .row 0 5 1 40 (fun _ => [.int .i64 0, .int .i64 0, .str [], .int .i64 0, .nils]), .row 0 8 v1.fItems.length 55 (row TEntry.cells v1.fItems)], (ACall.frame (ow46 hv2) [.row 0 5 1 40 (fun _ => [.int .i64 a0.fKind, .int .i64 a0.fNum, .str a0.fStr, .int .i64 a0.fNext, sl 8 TEntry.cells a0.fItems]), .row 0 3 1 44 (fun _ => [.bool a1.fText, .int .i64 a1.fNum, .str a1.fStr]), .row 0 5 1 40 (fun _ => [.int .i64 a2.fKind, .int .i64 a2.fNum, .str a2.fStr, .int .i64 a2.fNext, sl 8 TEntry.cells a2.fItems]), .row 0 5 1 40 (fun _ => [.int .i64 0, .int .i64 0, .str [], .int .i64 0, .nils])] rfl).mono (by rintro _ _ ⟨_, _, ⟨rfl, rfl⟩, rfl, rfl⟩; exact ⟨rfl, by simp only [List.map_cons, List.map_nil, shiftO_row TEntry.cells_pure]; rfl⟩), ?_⟩
  rintro _ _ ⟨rfl, rfl⟩
  refine ⟨rfl, _, fun _ => [.int .i64 v1.fKind, .int .i64 v1.fNum, .str v1.fStr, .int .i64 v1.fNext, .own 4 0 0 v1.fItems.length], rfl, one_set rfl, ?_⟩
  refine .direct ?_
  refine .direct ?_
  refine ⟨rfl, ?_⟩
  refine ⟨rfl, _, rfl, ?_⟩
  refine splitB.mk (fun hb3 => ?_) (fun hb3 => ?_)
  · replace h := T_bne hb3 h
    refine splitB_t ?_
    refine splitB_t ?_
    refine splitB_t ?_
    refine splitB_t ?_
    refine .direct ?_
    refine ⟨rfl, _, rfl, ?_⟩
    refine ⟨rfl, _, fun _ => [.int .i64 v1.fKind, .int .i64 v1.fNum, .str v1.fStr, .int .i64 v1.fNext, .own 4 0 0 v1.fItems.length], rfl, one_set rfl, ?_⟩
    obtain rfl := Option.some.inj h
    refine ⟨rfl, _, rfl, ?_⟩
    exact ⟨[], .tup [.agg [.int .i64 v1.fKind, .int .i64 v1.fNum, .str v1.fStr, .int .i64 v1.fNext, sl 8 TEntry.cells v1.fItems], .bool false], [], by decide, (show 0 ≤ 0 by decide), .tup_l ⟨.agg_l ⟨.int_eq rfl, .int_eq rfl, .str_eq rfl, .int_eq rfl, (fz_frz TEntry.cells_pure (by decide) rfl shows_all), trivial⟩, .bool_eq rfl, trivial⟩, trivial, rfl, rfl⟩
  · replace h := F_bne hb3 h
    refine ⟨rfl, _, rfl, ?_⟩
    refine splitB_f ?_
    obtain ⟨v4, hv5, h⟩ := bind_some h
    refine ⟨_, ACall.pure0 (ok55 hv5) _ rfl (fun _ => rfl), ?_⟩
    rintro _ _ ⟨rfl, rfl⟩
    refine splitB_f ?_
    refine splitB_f ?_
    refine splitB.mk (fun hb6 => ?_) (fun hb6 => ?_)
    · have hb12 := not_F hb6
      replace h := F_var hb12 h
      refine .direct ?_
      refine ⟨rfl, _, rfl, ?_⟩
      refine ⟨rfl, _, fun _ => [.int .i64 v1.fKind, .int .i64 v1.fNum, .str v1.fStr, .int .i64 v1.fNext, .own 4 0 0 v1.fItems.length], rfl, one_set rfl, ?_⟩
      obtain rfl := Option.some.inj h
      refine ⟨rfl, _, rfl, ?_⟩
      exact ⟨[], .tup [.agg [.int .i64 v1.fKind, .int .i64 v1.fNum, .str v1.fStr, .int .i64 v1.fNext, sl 8 TEntry.cells v1.fItems], .bool false], [], by decide, (show 0 ≤ 0 by decide), .tup_l ⟨.agg_l ⟨.int_eq rfl, .int_eq rfl, .str_eq rfl, .int_eq rfl, (fz_frz TEntry.cells_pure (by decide) rfl shows_all), trivial⟩, .bool_eq rfl, trivial⟩, trivial, rfl, rfl⟩
    · have hb12 := not_T hb6
      replace h := T_var hb12 h
      refine .direct ?_
      refine .float [(0, true), (1, true), (2, false), (3, false)] (by kernel_rfl) ?_
      refine ⟨rfl, _, rfl, ?_⟩
      refine ⟨rfl, _, rfl, ?_⟩
      obtain ⟨v7, hv8, h⟩ := bind_some h
      refine ⟨_, ACall.pure0 (ok46 hv8) _ rfl (fun _ => rfl), ?_⟩
      rintro _ _ ⟨rfl, rfl⟩
      refine ⟨rfl, ?_⟩
      obtain ⟨v9, hv10, h⟩ := bind_some h
      refine ⟨fun res h' => ∃ g11 : Nat, res = .tup [] ∧ h' = [.row 0 5 1 40 (fun _ => [.int .i64 a0.fKind, .int .i64 a0.fNum, .str a0.fStr, .int .i64 a0.fNext, sl 8 TEntry.cells a0.fItems]), .row 0 3 1 44 (fun _ => [.bool a1.fText, .int .i64 a1.fNum, .str a1.fStr]), .row 0 5 1 40 (fun _ => [.int .i64 a2.fKind, .int .i64 a2.fNum, .str a2.fStr, .int .i64 a2.fNext, sl 8 TEntry.cells a2.fItems]), .row 0 5 1 40 (fun _ => [.int .i64 0, .int .i64 0, .str [], .int .i64 0, .nils]), .row g11 8 v9.fItems.length 55 (row TEntry.cells v9.fItems), .row 0 5 1 40 (fun _ => [.int .i64 v9.fKind, .int .i64 v9.fNum, .str v9.fStr, .int .i64 v9.fNext, .own 4 g11 0 v9.fItems.length])], (ACall.over (ok56 (g1000 := 0) (g1001 := 0) hv10) [5, 4] [.row 0 5 1 40 (fun _ => [.int .i64 a0.fKind, .int .i64 a0.fNum, .str a0.fStr, .int .i64 a0.fNext, sl 8 TEntry.cells a0.fItems]), .row 0 3 1 44 (fun _ => [.bool a1.fText, .int .i64 a1.fNum, .str a1.fStr]), .row 0 5 1 40 (fun _ => [.int .i64 a2.fKind, .int .i64 a2.fNum, .str a2.fStr, .int .i64 a2.fNext, sl 8 TEntry.cells a2.fItems]), .row 0 5 1 40 (fun _ => [.int .i64 0, .int .i64 0, .str [], .int .i64 0, .nils]), .row 0 8 v1.fItems.length 55 (row TEntry.cells v1.fItems), .row 0 5 1 40 (fun _ => [.int .i64 v1.fKind, .int .i64 v1.fNum, .str v1.fStr, .int .i64 v1.fNext, .own 4 0 0 v1.fItems.length])] rfl (by decide) (by simp) (by intro j o hj; exact match j, hj with | 0, hj => by cases hj; rfl | 1, hj => by cases hj; exact (congrArg some (renO_row TEntry.cells_pure _ _ _ _ _ _)).symm | j + 2, hj => by cases hj) rfl).mono (by rintro _ _ ⟨_, _, ⟨g11, rfl, rfl⟩, rfl, rfl⟩; exact ⟨g11, rfl, (by simp only [nxtL, putSel, List.map_cons, List.map_nil, List.drop, List.length_cons, List.length_nil, renO_row TEntry.cells_pure]; rfl)⟩), ?_⟩
      rintro _ _ ⟨g11, rfl, rfl⟩
      refine .direct ?_
      refine ⟨rfl, _, rfl, ?_⟩
      refine ⟨rfl, _, fun _ => [.int .i64 v9.fKind, .int .i64 v9.fNum, .str v9.fStr, .int .i64 v9.fNext, .own 4 g11 0 v9.fItems.length], rfl, one_set rfl, ?_⟩
      obtain rfl := Option.some.inj h
      refine ⟨rfl, _, rfl, ?_⟩
      exact ⟨[], .tup [.agg [.int .i64 v9.fKind, .int .i64 v9.fNum, .str v9.fStr, .int .i64 v9.fNext, sl 8 TEntry.cells v9.fItems], .bool true], [], by decide, (show 0 ≤ 0 by decide), .tup_l ⟨.agg_l ⟨.int_eq rfl, .int_eq rfl, .str_eq rfl, .int_eq rfl, (fz_frz TEntry.cells_pure (by decide) rfl shows_all), trivial⟩, .bool_eq rfl, trivial⟩, trivial, rfl, rfl⟩
def m26 (a0 : TValue) (a1 : TKey) : Option (TValue) :=
  m46 a0 >>= fun v1 =>
  m27 a0 a1 >>= fun v3 =>
  (if v3 ≥ 0 then
    lto v1.fItems v3 >>= fun l6 =>
    lfrom v1.fItems (W64 (v3 + 1)) >>= fun l8 =>
    lapp 96 l6 l8 >>= fun l10 =>
    some (TValue.mk v1.fKind v1.fNum v1.fStr v1.fNext l10)
  else
    some v1)
theorem ok26 {a0 : TValue} {a1 : TKey} {r : TValue} (h : m26 a0 a1 = some r) : ACall Tryd.prog 26 [.agg [.int .i64 a0.fKind, .int .i64 a0.fNum, .str a0.fStr, .int .i64 a0.fNext, sl 8 TEntry.cells a0.fItems], .agg [.bool a1.fText, .int .i64 a1.fNum, .str a1.fStr]] [] (fun res h => res = .agg [.int .i64 r.fKind, .int .i64 r.fNum, .str r.fStr, .int .i64 r.fNext, sl 8 TEntry.cells r.fItems] ∧ h = []) := by
  refine ACall.of_vc tabT_ok mixed Tryd.func26 rfl (by kernel_rfl) _ _ _ rfl (by kernel_rfl) ?_
  unfold m26 at h
  refine .direct ?_
  refine .direct ?_
  refine ⟨rfl, _, rfl, ?_⟩
  obtain ⟨v1, hv2, h⟩ := bind_some h
  refine ⟨fun res h' => res = .agg [.int .i64 v1.fKind, .int .i64 v1.fNum, .str v1.fStr, .int .i64 v1.fNext, .own 3 0 0 v1.fItems.length] ∧ h' = [.row 0 5 1 40 (fun _ => [.int .i64 a0.fKind, .int .i64 a0.fNum, .str a0.fStr, .int .i64 a0.fNext, sl 8 TEntry.cells a0.fItems]), .row 0 3 1 44 (fun _ => [.bool a1.fText, .int .i64 a1.fNum, .str a1.fStr]), .row 0 5 1 40 (fun _ => [.int .i64 0, .int .i64 0, .str [], .int .i64 0, .nils]), .row 0 8 v1.fItems.length 55 (row TEntry.cells v1.fItems)], (ACall.frame (ow46 hv2) [.row 0 5 1 40 (fun _ => [.int .i64 a0.fKind, .int .i64 a0.fNum, .str a0.fStr, .int .i64 a0.fNext, sl 8 TEntry.cells a0.fItems]), .row 0 3 1 44 (fun _ => [.bool a1.fText, .int .i64 a1.fNum, .str a1.fStr]), .row 0 5 1 40 (fun _ => [.int .i64 0, .int .i64 0, .str [], .int .i64 0, .nils])] rfl).mono (by rintro _ _ ⟨_, _, ⟨rfl, rfl⟩, rfl, rfl⟩; exact ⟨rfl, by simp only [List.map_cons, List.map_nil, shiftO_row TEntry.cells_pure]; rfl⟩), ?_⟩
  rintro _ _ ⟨rfl, rfl⟩
  refine ⟨rfl, _, fun _ => [.int .i64 v1.fKind, .int .i64 v1.fNum, .str v1.fStr, .int .i64 v1.fNext, .own 3 0 0 v1.fItems.length], rfl, one_set rfl, ?_⟩
  refine .direct ?_
  refine ⟨rfl, _, rfl, ?_⟩
  refine ⟨rfl, _, rfl, ?_⟩
  obtain ⟨v3, hv4, h⟩ := bind_some h
  refine ⟨_, ACall.pure0 (ok27 hv4) _ rfl (fun _ => rfl), ?_⟩
  rintro _ _ ⟨rfl, rfl⟩
  refine .direct ?_
  refine .direct ?_
  refine splitB.mk (fun hb5 => ?_) (fun hb5 => ?_)
  · replace h := T_dec hb5 h
    refine .float [(0, true), (1, true), (2, true), (3, true), (4, true), (5, true), (6, true), (7, true), (8, true), (9, false), (10, true), (11, false)] (by kernel_rfl) ?_
    refine ⟨rfl, ?_⟩
    refine ⟨rfl, _, rfl, ?_⟩
    obtain ⟨l6, hx7, h⟩ := bind_some h
    refine ⟨rfl, trivial, lto_bd hx7, _, l6.length, rfl, lto_len hx7, ?_⟩
    refine ⟨rfl, ?_⟩
    refine ⟨rfl, _, rfl, ?_⟩
    obtain ⟨l8, hx9, h⟩ := bind_some h
    refine ⟨rfl, trivial, lfrom_bd hx9, _, l8.length, rfl, lfrom_len hx9, ?_⟩
    obtain ⟨l10, hx11, h⟩ := bind_some h
    refine ⟨rfl, rfl, lapp_bd hx11, l10.length, row TEntry.cells l10, lapp_len hx11, lapp_row hx11 (shows_lto shows_all hx7) (src_own (shows_lfrom shows_all hx9)), ?_⟩
    refine ⟨rfl, ?_⟩
    refine ⟨rfl, _, fun _ => [.int .i64 v1.fKind, .int .i64 v1.fNum, .str v1.fStr, .int .i64 v1.fNext, .own 3 (0 + 1) 0 l10.length], rfl, one_set rfl, ?_⟩
    refine .direct ?_
    refine ⟨rfl, _, rfl, ?_⟩
    refine ⟨rfl, _, fun _ => [.int .i64 v1.fKind, .int .i64 v1.fNum, .str v1.fStr, .int .i64 v1.fNext, .own 3 (0 + 1) 0 l10.length], rfl, one_set rfl, ?_⟩
    obtain rfl := Option.some.inj h
    refine ⟨rfl, _, rfl, ?_⟩
    exact ⟨[], .agg [.int .i64 ((TValue.mk v1.fKind v1.fNum v1.fStr v1.fNext l10).fKind), .int .i64 ((TValue.mk v1.fKind v1.fNum v1.fStr v1.fNext l10).fNum), .str ((TValue.mk v1.fKind v1.fNum v1.fStr v1.fNext l10).fStr), .int .i64 ((TValue.mk v1.fKind v1.fNum v1.fStr v1.fNext l10).fNext), sl 8 TEntry.cells ((TValue.mk v1.fKind v1.fNum v1.fStr v1.fNext l10).fItems)], [], by decide, (show 0 ≤ 0 by decide), .agg_l ⟨.int_eq rfl, .int_eq rfl, .str_eq rfl, .int_eq rfl, (fz_frz TEntry.cells_pure (by decide) rfl shows_all), trivial⟩, trivial, rfl, rfl⟩
  · replace h := F_dec hb5 h
    refine .direct ?_
    refine ⟨rfl, _, rfl, ?_⟩
    refine ⟨rfl, _, fun _ => [.int .i64 v1.fKind, .int .i64 v1.fNum, .str v1.fStr, .int .i64 v1.fNext, .own 3 0 0 v1.fItems.length], rfl, one_set rfl, ?_⟩
    obtain rfl := Option.some.inj h
    refine ⟨rfl, _, rfl, ?_⟩
    exact ⟨[], .agg [.int .i64 v1.fKind, .int .i64 v1.fNum, .str v1.fStr, .int .i64 v1.fNext, sl 8 TEntry.cells v1.fItems], [], by decide, (show 0 ≤ 0 by decide), .agg_l ⟨.int_eq rfl, .int_eq rfl, .str_eq rfl, .int_eq rfl, (fz_frz TEntry.cells_pure (by decide) rfl shows_all), trivial⟩, trivial, rfl, rfl⟩
def m29_L2 (a0 : TValue) (l6 : List TValue) (y7 : Int) : Option ((List TValue)) :=
  (if y7 < (a0.fItems.length : Int) then
    idx a0.fItems y7 >>= fun x11 =>
    m46 x11.fVal >>= fun v13 =>
    lapp 64 l6 ([v13] : List TValue) >>= fun l15 =>
    m29_L2 a0 l15 (W64 (y7 + 1))
  else
    some l6)
partial_fixpoint
def m29 (a0 : TValue) : Option ((List TValue)) :=
  (
    (if a0.fKind = 4 then
      m29_L2 a0 ([] : List TValue) 0
    else
      some ([] : List TValue))
   : Option ((List TValue))) >>= fun l1 =>
  some l1
theorem ok29 {a0 : TValue} {r : (List TValue)} (h : m29 a0 = some r) : ACall Tryd.prog 29 [.agg [.int .i64 a0.fKind, .int .i64 a0.fNum, .str a0.fStr, .int .i64 a0.fNext, sl 8 TEntry.cells a0.fItems]] [] (fun res h => res = sl 5 TValue.cells r ∧ h = []) := by
  refine ACall.of_vc tabT_ok mixed Tryd.func29 rfl (by kernel_rfl) _ _ _ rfl (by kernel_rfl) ?_
  unfold m29 at h
  refine .direct ?_
  refine .direct ?_
  refine ⟨row TValue.cells ([] : List TValue), row_lit TValue.cells ([] : List TValue) rfl (cll_refl rfl), ?_⟩
  obtain ⟨o2, ho3, hk4⟩ := bind_some h
  replace h := ho3
  refine .cut (fun σ η => ∃ l1, l1 = o2 ∧ σ = [(3, .own 0 0 0 l1.length)] ∧ η = [.row 0 5 l1.length 40 (row TValue.cells l1)]) ?_ ?_
  · refine .direct ?_
    refine ⟨rfl, ?_⟩
    refine ⟨rfl, _, rfl, ?_⟩
    refine splitB.mk (fun hb5 => ?_) (fun hb5 => ?_)
    · replace h := T_beq hb5 h
      refine .direct ?_
      refine ⟨rfl, ?_⟩
      refine ⟨rfl, _, rfl, ?_⟩
      refine LoopAt.enter [(3, .own 0 0 0 ([] : List TValue).length), (11, sl 8 TEntry.cells a0.fItems), (12, .int .i64 (a0.fItems.length : Int)), (13, .int .i64 0)] [.row 0 5 ([] : List TValue).length 40 (row TValue.cells ([] : List TValue))] ⟨[1], by decide, (show 0 ≤ 1 by decide), ⟨.own_eq rfl ⟨_, _, _, _, rfl⟩ ⟨_, _, _, _, rfl⟩ rfl rfl, .slc_eq rfl (fun _ _ => rfl), .int_eq rfl, .int_eq rfl, trivial⟩, ⟨⟨fun h0 => absurd (show 0 < 0 from h0) (by decide), rfl, rfl, rfl, fz_row TValue.cells_pure⟩, trivial⟩⟩ ?_
      refine m29_L2.partial_correctness a0 (motive := fun l6 y7 o17 => o2 = o17 → LoopAt _ _ [(3, .own 0 0 0 l6.length), (11, sl 8 TEntry.cells a0.fItems), (12, .int .i64 (a0.fItems.length : Int)), (13, .int .i64 y7)] [.row 0 5 l6.length 40 (row TValue.cells l6)]) ?_ ([] : List TValue) 0 o2 h rfl
      intro F9 ih8 l6 y7 o17 h hr18
      subst hr18
      refine LoopAt.round ?_
      refine .direct ?_
      refine .direct ?_
      refine splitB.mk (fun hb10 => ?_) (fun hb10 => ?_)
      · replace h := T_dec hb10 h
        refine .direct ?_
        refine .direct ?_
        obtain ⟨x11, hx12, h⟩ := bind_some h
        refine ⟨idx_bd hx12, _, (idx_row hx12).trans (TEntry.cells_eq x11), ?_⟩
        refine ⟨rfl, _, fun _ => [.bool x11.fKey.fText, .int .i64 x11.fKey.fNum, .str x11.fKey.fStr, .int .i64 x11.fVal.fKind, .int .i64 x11.fVal.fNum, .str x11.fVal.fStr, .int .i64 x11.fVal.fNext, sl 8 TEntry.cells x11.fVal.fItems], rfl, one_set rfl, ?_⟩
        refine ⟨rfl, ?_⟩
        refine ⟨rfl, _, rfl, ?_⟩
        obtain ⟨v13, hv14, h⟩ := bind_some h
        refine ⟨_, ACall.pure0 (ok46 hv14) _ rfl (fun _ => rfl), ?_⟩
        rintro _ _ ⟨rfl, rfl⟩
        refine ⟨row TValue.cells ([v13] : List TValue), row_lit TValue.cells ([v13] : List TValue) rfl (cll_cons (TValue.cells_eq _) ⟨.same _, .same _, .same _, .same _, .same _, trivial⟩ trivial), ?_⟩
        obtain ⟨l15, hx16, h⟩ := bind_some h
        refine ⟨rfl, rfl, lapp_bd hx16, l15.length, row TValue.cells l15, lapp_len hx16, lapp_row hx16 shows_all (src_own shows_all), ?_⟩
        exact ⟨[(3, .own 0 0 0 l15.length), (11, sl 8 TEntry.cells a0.fItems), (12, .int .i64 (a0.fItems.length : Int)), (13, .int .i64 (W64 (y7 + 1)))], [.row 0 5 l15.length 40 (row TValue.cells l15)], ⟨[0], by decide, (show 0 ≤ 1 by decide), ⟨.own_eq rfl ⟨_, _, _, _, rfl⟩ ⟨_, _, _, _, rfl⟩ rfl rfl, .slc_eq rfl (fun _ _ => rfl), .int_eq rfl, .int_eq rfl, trivial⟩, ⟨⟨fun h0 => absurd (show 0 < 0 from h0) (by decide), rfl, rfl, rfl, fz_row TValue.cells_pure⟩, trivial⟩⟩, ih8 _ _ _ h rfl⟩
      · replace h := F_dec hb10 h
        exact ⟨[(3, .own 0 0 0 l6.length)], [.row 0 5 l6.length 40 (row TValue.cells l6)], ⟨[0], by decide, (show 0 ≤ 1 by decide), ⟨.own_eq rfl ⟨_, _, _, _, rfl⟩ ⟨_, _, _, _, rfl⟩ rfl rfl, trivial⟩, ⟨⟨fun h0 => absurd (show 0 < 0 from h0) (by decide), rfl, rfl, rfl, fz_row TValue.cells_pure⟩, trivial⟩⟩, l6, Option.some.inj h, rfl, rfl⟩
    · replace h := F_beq hb5 h
      exact ⟨[(3, .own 0 0 0 ([] : List TValue).length)], [.row 0 5 ([] : List TValue).length 40 (row TValue.cells ([] : List TValue))], ⟨[1], by decide, (show 0 ≤ 1 by decide), ⟨.own_eq rfl ⟨_, _, _, _, rfl⟩ ⟨_, _, _, _, rfl⟩ rfl rfl, trivial⟩, ⟨⟨fun h0 => absurd (show 0 < 0 from h0) (by decide), rfl, rfl, rfl, fz_row TValue.cells_pure⟩, trivial⟩⟩, ([] : List TValue), Option.some.inj h, rfl, rfl⟩
  · rintro _ _ ⟨l1, rfl, rfl, rfl⟩
    replace h := hk4
    refine .direct ?_
    obtain rfl := Option.some.inj h
    exact ⟨[], sl 5 TValue.cells l1, [], by decide, (show 0 ≤ 0 by decide), (fz_frz TValue.cells_pure (by decide) rfl shows_all), trivial, rfl, rfl⟩
theorem ow105 {a0 : Bool} {r : TValue} (h : m105 a0 = some r) : ACall Tryd.prog 105 [.bool a0] [] (fun res h => res = .agg [.int .i64 r.fKind, .int .i64 r.fNum, .str r.fStr, .int .i64 r.fNext, .own 0 0 0 r.fItems.length] ∧ h = [.row 0 8 r.fItems.length 55 (row TEntry.cells r.fItems)]) := by
  refine ACall.of_vc tabT_ok mixed Tryd.func105 rfl (by kernel_rfl) _ _ _ rfl (by kernel_rfl) ?_
  unfold m105 at h
  refine .direct ?_
  refine .direct ?_
  refine .direct ?_
  refine splitB.mk (fun hb1 => ?_) (fun hb1 => ?_)
  · replace h := T_var hb1 h
    refine .direct ?_
    refine ⟨rfl, _, fun _ => [.int .i64 1, .int .i64 1, .str [], .int .i64 0, .nils], rfl, one_set rfl, ?_⟩
    obtain rfl := Option.some.inj h
    refine ⟨rfl, _, rfl, ?_⟩
    exact ⟨[1], .agg [.int .i64 ((TValue.mk 1 1 [] 0 []).fKind), .int .i64 ((TValue.mk 1 1 [] 0 []).fNum), .str ((TValue.mk 1 1 [] 0 []).fStr), .int .i64 ((TValue.mk 1 1 [] 0 []).fNext), .own 0 0 0 ((TValue.mk 1 1 [] 0 []).fItems).length], [.row 0 8 ((TValue.mk 1 1 [] 0 []).fItems).length 55 (row TEntry.cells ((TValue.mk 1 1 [] 0 []).fItems))], by decide, (show 0 ≤ 1 by decide), .agg_l ⟨.int_eq rfl, .int_eq rfl, .str_eq rfl, .int_eq rfl, (.nilo _ _ _ _ _ _ rfl rfl rfl), trivial⟩, ⟨⟨(show 0 ≤ 0 by decide), rfl⟩, trivial⟩, rfl, rfl⟩
  · replace h := F_var hb1 h
    refine .direct ?_
    refine ⟨rfl, _, fun _ => [.int .i64 1, .int .i64 0, .str [], .int .i64 0, .nils], rfl, one_set rfl, ?_⟩
    obtain rfl := Option.some.inj h
    refine ⟨rfl, _, rfl, ?_⟩
    exact ⟨[1], .agg [.int .i64 ((TValue.mk 1 0 [] 0 []).fKind), .int .i64 ((TValue.mk 1 0 [] 0 []).fNum), .str ((TValue.mk 1 0 [] 0 []).fStr), .int .i64 ((TValue.mk 1 0 [] 0 []).fNext), .own 0 0 0 ((TValue.mk 1 0 [] 0 []).fItems).length], [.row 0 8 ((TValue.mk 1 0 [] 0 []).fItems).length 55 (row TEntry.cells ((TValue.mk 1 0 [] 0 []).fItems))], by decide, (show 0 ≤ 1 by decide), .agg_l ⟨.int_eq rfl, .int_eq rfl, .str_eq rfl, .int_eq rfl, (.nilo _ _ _ _ _ _ rfl rfl rfl), trivial⟩, ⟨⟨(show 0 ≤ 0 by decide), rfl⟩, trivial⟩, rfl, rfl⟩
def m89 (a0 : TL1Cur) : Option (TValue × TL1Cur) :=
  m40 a0 8 >>= fun (v1, v2) =>
  (if v1 = 0 then
    some ((TValue.mk 0 0 [] 0 []), v2)
  else
    (if v1 = 1 then
      m37 v2 2 >>= fun (v6, v7) =>
      m105 v6 >>= fun v9 =>
      some (v9, v7)
    else
      (
        (if v1 = 2 then
          some (v1 == 2)
        else
          some (v1 == 3))
       : Option (Bool)) >>= fun b11 =>
      (if b11 = true then
        m107 v2 >>= fun (v17, v18) =>
        some ((TValue.mk 3 0 v17 0 []), v18)
      else
        (if v1 = 4 then
          m85 v2 ([0, 1, (-1), 5, 10, 999999999, 1000000000, (-1000000000)] : List Int) >>= fun (v21, v22) =>
          some ((TValue.mk 2 v21 [] 0 []), v22)
        else
          m40 v2 20 >>= fun (v24, v25) =>
          some ((TValue.mk 2 (W64 (v24 - 5)) [] 0 []), v25)))))
theorem ok89 {a0 : TL1Cur} {r : TValue × TL1Cur} {g1000 : Nat} (h : m89 a0 = some r) : ACall Tryd.prog 89 [.optr 0 g1000 0 0] [.row g1000 3 1 100 (fun _ => [sl 1 cB a0.fB, .int .i64 a0.fI, .int .i64 a0.fH])] (fun res h => res = .agg [.int .i64 r.1.fKind, .int .i64 r.1.fNum, .str r.1.fStr, .int .i64 r.1.fNext, sl 8 TEntry.cells r.1.fItems] ∧ h = [.row g1000 3 1 100 (fun _ => [sl 1 cB r.2.fB, .int .i64 r.2.fI, .int .i64 r.2.fH])]) := by
  refine ACall.of_vc tabT_ok mixed Tryd.func89 rfl (by kernel_rfl) _ _ _ rfl (by kernel_rfl) ?_
  unfold m89 at h
  refine .direct ?_
  refine .direct ?_
  refine .direct ?_
  obtain ⟨⟨v1, v2⟩, hv3, h⟩ := bind_some h
  refine ⟨fun res h' => res = .int .i64 v1 ∧ h' = [.row g1000 3 1 100 (fun _ => [sl 1 cB v2.fB, .int .i64 v2.fI, .int .i64 v2.fH]), .row 0 5 1 40 (fun _ => [.int .i64 0, .int .i64 0, .str [], .int .i64 0, .nils])], (ACall.over (ok40 (g1000 := g1000) hv3) [0] [.row g1000 3 1 100 (fun _ => [sl 1 cB a0.fB, .int .i64 a0.fI, .int .i64 a0.fH]), .row 0 5 1 40 (fun _ => [.int .i64 0, .int .i64 0, .str [], .int .i64 0, .nils])] rfl (by decide) (by simp) (by intro j o hj; exact match j, hj with | 0, hj => by cases hj; rfl | j + 1, hj => by cases hj) rfl).mono (by rintro _ _ ⟨_, _, ⟨rfl, rfl⟩, rfl, rfl⟩; exact ⟨rfl, rfl⟩), ?_⟩
  rintro _ _ ⟨rfl, rfl⟩
  refine .direct ?_
  refine splitB.mk (fun hb4 => ?_) (fun hb4 => ?_)
  · replace h := T_beq hb4 h
    refine .direct ?_
    refine ⟨rfl, _, fun _ => [.int .i64 0, .int .i64 0, .str [], .int .i64 0, .nils], rfl, one_set rfl, ?_⟩
    obtain rfl := Option.some.inj h
    refine ⟨rfl, _, rfl, ?_⟩
    exact ⟨[0], .agg [.int .i64 ((TValue.mk 0 0 [] 0 []).fKind), .int .i64 ((TValue.mk 0 0 [] 0 []).fNum), .str ((TValue.mk 0 0 [] 0 []).fStr), .int .i64 ((TValue.mk 0 0 [] 0 []).fNext), sl 8 TEntry.cells ((TValue.mk 0 0 [] 0 []).fItems)], [.row g1000 3 1 100 (fun _ => [sl 1 cB v2.fB, .int .i64 v2.fI, .int .i64 v2.fH])], by decide, (show 1 ≤ 1 by decide), .agg_l ⟨.int_eq rfl, .int_eq rfl, .str_eq rfl, .int_eq rfl, fz_nils, trivial⟩, ⟨⟨fun _ => ⟨rfl, rfl⟩, rfl, rfl, rfl, fun _ _ => ⟨.slc_eq rfl (fun _ _ => rfl), .int_eq rfl, .int_eq rfl, trivial⟩⟩, trivial⟩, rfl, rfl⟩
  · replace h := F_beq hb4 h
    refine .direct ?_
    refine splitB.mk (fun hb5 => ?_) (fun hb5 => ?_)
    · replace h := T_beq hb5 h
      refine .direct ?_
      obtain ⟨⟨v6, v7⟩, hv8, h⟩ := bind_some h
      refine ⟨fun res h' => res = .bool v6 ∧ h' = [.row g1000 3 1 100 (fun _ => [sl 1 cB v7.fB, .int .i64 v7.fI, .int .i64 v7.fH]), .row 0 5 1 40 (fun _ => [.int .i64 0, .int .i64 0, .str [], .int .i64 0, .nils])], (ACall.over (ok37 (g1000 := g1000) hv8) [0] [.row g1000 3 1 100 (fun _ => [sl 1 cB v2.fB, .int .i64 v2.fI, .int .i64 v2.fH]), .row 0 5 1 40 (fun _ => [.int .i64 0, .int .i64 0, .str [], .int .i64 0, .nils])] rfl (by decide) (by simp) (by intro j o hj; exact match j, hj with | 0, hj => by cases hj; rfl | j + 1, hj => by cases hj) rfl).mono (by rintro _ _ ⟨_, _, ⟨rfl, rfl⟩, rfl, rfl⟩; exact ⟨rfl, rfl⟩), ?_⟩
      rintro _ _ ⟨rfl, rfl⟩
      obtain ⟨v9, hv10, h⟩ := bind_some h
      refine ⟨_, ACall.pure0 (ok105 hv10) _ rfl (fun _ => rfl), ?_⟩
      rintro _ _ ⟨rfl, rfl⟩
      refine ⟨rfl, _, fun _ => [.int .i64 v9.fKind, .int .i64 v9.fNum, .str v9.fStr, .int .i64 v9.fNext, sl 8 TEntry.cells v9.fItems], rfl, one_set rfl, ?_⟩
      obtain rfl := Option.some.inj h
      refine ⟨rfl, _, rfl, ?_⟩
      exact ⟨[0], .agg [.int .i64 v9.fKind, .int .i64 v9.fNum, .str v9.fStr, .int .i64 v9.fNext, sl 8 TEntry.cells v9.fItems], [.row g1000 3 1 100 (fun _ => [sl 1 cB v7.fB, .int .i64 v7.fI, .int .i64 v7.fH])], by decide, (show 1 ≤ 1 by decide), .agg_l ⟨.int_eq rfl, .int_eq rfl, .str_eq rfl, .int_eq rfl, .slc_eq rfl (fun _ _ => rfl), trivial⟩, ⟨⟨fun _ => ⟨rfl, rfl⟩, rfl, rfl, rfl, fun _ _ => ⟨.slc_eq rfl (fun _ _ => rfl), .int_eq rfl, .int_eq rfl, trivial⟩⟩, trivial⟩, rfl, rfl⟩
    · replace h := F_beq hb5 h
      obtain ⟨o12, ho13, hk14⟩ := bind_some h
      replace h := ho13
      refine .cut (fun σ η => ∃ b11, b11 = o12 ∧ σ = [(0, .optr 0 g1000 0 0), (2, .optr 1 0 0 0), (4, .int .i64 v1), (13, .bool b11)] ∧ η = [.row g1000 3 1 100 (fun _ => [sl 1 cB v2.fB, .int .i64 v2.fI, .int .i64 v2.fH]), .row 0 5 1 40 (fun _ => [.int .i64 0, .int .i64 0, .str [], .int .i64 0, .nils])]) ?_ ?_
      · refine .direct ?_
        refine splitB.mk (fun hb15 => ?_) (fun hb15 => ?_)
        · replace h := T_beq hb15 h
          exact ⟨[(0, .optr 0 g1000 0 0), (2, .optr 1 0 0 0), (4, .int .i64 v1), (13, .bool (v1 == 2))], [.row g1000 3 1 100 (fun _ => [sl 1 cB v2.fB, .int .i64 v2.fI, .int .i64 v2.fH]), .row 0 5 1 40 (fun _ => [.int .i64 0, .int .i64 0, .str [], .int .i64 0, .nils])], ⟨[0, 1], by decide, (show 1 ≤ 2 by decide), ⟨.optr_eq rfl ⟨_, _, _, _, rfl⟩ ⟨_, _, _, _, rfl⟩ rfl rfl, .optr_eq rfl ⟨_, _, _, _, rfl⟩ ⟨_, _, _, _, rfl⟩ rfl rfl, .int_eq rfl, .bool_eq rfl, trivial⟩, ⟨⟨fun _ => ⟨rfl, rfl⟩, rfl, rfl, rfl, fun _ _ => ⟨.slc_eq rfl (fun _ _ => rfl), .int_eq rfl, .int_eq rfl, trivial⟩⟩, ⟨fun h0 => absurd (show 1 < 1 from h0) (by decide), rfl, rfl, rfl, fun _ _ => ⟨.int_eq rfl, .int_eq rfl, .str_eq rfl, .int_eq rfl, .nils, trivial⟩⟩, trivial⟩⟩, (v1 == 2), Option.some.inj h, rfl, rfl⟩
        · replace h := F_beq hb15 h
          exact ⟨[(0, .optr 0 g1000 0 0), (2, .optr 1 0 0 0), (4, .int .i64 v1), (13, .bool (v1 == 3))], [.row g1000 3 1 100 (fun _ => [sl 1 cB v2.fB, .int .i64 v2.fI, .int .i64 v2.fH]), .row 0 5 1 40 (fun _ => [.int .i64 0, .int .i64 0, .str [], .int .i64 0, .nils])], ⟨[0, 1], by decide, (show 1 ≤ 2 by decide), ⟨.optr_eq rfl ⟨_, _, _, _, rfl⟩ ⟨_, _, _, _, rfl⟩ rfl rfl, .optr_eq rfl ⟨_, _, _, _, rfl⟩ ⟨_, _, _, _, rfl⟩ rfl rfl, .int_eq rfl, .bool_eq rfl, trivial⟩, ⟨⟨fun _ => ⟨rfl, rfl⟩, rfl, rfl, rfl, fun _ _ => ⟨.slc_eq rfl (fun _ _ => rfl), .int_eq rfl, .int_eq rfl, trivial⟩⟩, ⟨fun h0 => absurd (show 1 < 1 from h0) (by decide), rfl, rfl, rfl, fun _ _ => ⟨.int_eq rfl, .int_eq rfl, .str_eq rfl, .int_eq rfl, .nils, trivial⟩⟩, trivial⟩⟩, (v1 == 3), Option.some.inj h, rfl, rfl⟩
      · rintro _ _ ⟨b11, rfl, rfl, rfl⟩
        replace h := hk14
        refine splitB.mk (fun hb16 => ?_) (fun hb16 => ?_)
        · replace h := T_var hb16 h
          refine .direct ?_
          obtain ⟨⟨v17, v18⟩, hv19, h⟩ := bind_some h
          refine ⟨fun res h' => res = .str v17 ∧ h' = [.row g1000 3 1 100 (fun _ => [sl 1 cB v18.fB, .int .i64 v18.fI, .int .i64 v18.fH]), .row 0 5 1 40 (fun _ => [.int .i64 0, .int .i64 0, .str [], .int .i64 0, .nils])], (ACall.over (ok107 (g1000 := g1000) hv19) [0] [.row g1000 3 1 100 (fun _ => [sl 1 cB v2.fB, .int .i64 v2.fI, .int .i64 v2.fH]), .row 0 5 1 40 (fun _ => [.int .i64 0, .int .i64 0, .str [], .int .i64 0, .nils])] rfl (by decide) (by simp) (by intro j o hj; exact match j, hj with | 0, hj => by cases hj; rfl | j + 1, hj => by cases hj) rfl).mono (by rintro _ _ ⟨_, _, ⟨rfl, rfl⟩, rfl, rfl⟩; exact ⟨rfl, rfl⟩), ?_⟩
          rintro _ _ ⟨rfl, rfl⟩
          refine ⟨_, ACall.pure0 (ok106x v17) _ rfl (fun _ => rfl), ?_⟩
          rintro _ _ ⟨rfl, rfl⟩
          refine ⟨rfl, _, fun _ => [.int .i64 3, .int .i64 0, .str v17, .int .i64 0, .nils], rfl, one_set rfl, ?_⟩
          obtain rfl := Option.some.inj h
          refine ⟨rfl, _, rfl, ?_⟩
          exact ⟨[0], .agg [.int .i64 ((TValue.mk 3 0 v17 0 []).fKind), .int .i64 ((TValue.mk 3 0 v17 0 []).fNum), .str ((TValue.mk 3 0 v17 0 []).fStr), .int .i64 ((TValue.mk 3 0 v17 0 []).fNext), sl 8 TEntry.cells ((TValue.mk 3 0 v17 0 []).fItems)], [.row g1000 3 1 100 (fun _ => [sl 1 cB v18.fB, .int .i64 v18.fI, .int .i64 v18.fH])], by decide, (show 1 ≤ 1 by decide), .agg_l ⟨.int_eq rfl, .int_eq rfl, .str_eq rfl, .int_eq rfl, fz_nils, trivial⟩, ⟨⟨fun _ => ⟨rfl, rfl⟩, rfl, rfl, rfl, fun _ _ => ⟨.slc_eq rfl (fun _ _ => rfl), .int_eq rfl, .int_eq rfl, trivial⟩⟩, trivial⟩, rfl, rfl⟩
        · replace h := F_var hb16 h
          refine .direct ?_
          refine splitB.mk (fun hb20 => ?_) (fun hb20 => ?_)
          · replace h := T_beq hb20 h
            refine .direct ?_
            refine ⟨row cI ([0, 1, (-1), 5, 10, 999999999, 1000000000, (-1000000000)] : List Int), row_lit cI ([0, 1, (-1), 5, 10, 999999999, 1000000000, (-1000000000)] : List Int) rfl (cll_refl rfl), ?_⟩
            obtain ⟨⟨v21, v22⟩, hv23, h⟩ := bind_some h
            refine ⟨fun res h' => res = .int .i64 v21 ∧ h' = [.row g1000 3 1 100 (fun _ => [sl 1 cB v22.fB, .int .i64 v22.fI, .int .i64 v22.fH]), .row 0 5 1 40 (fun _ => [.int .i64 0, .int .i64 0, .str [], .int .i64 0, .nils]), .row 0 1 ([0, 1, (-1), 5, 10, 999999999, 1000000000, (-1000000000)] : List Int).length 3 (row cI ([0, 1, (-1), 5, 10, 999999999, 1000000000, (-1000000000)] : List Int))], (ACall.over (ok85 (g1000 := g1000) (g1001 := 0) hv23) [0, 2] [.row g1000 3 1 100 (fun _ => [sl 1 cB v2.fB, .int .i64 v2.fI, .int .i64 v2.fH]), .row 0 5 1 40 (fun _ => [.int .i64 0, .int .i64 0, .str [], .int .i64 0, .nils]), .row 0 1 ([0, 1, (-1), 5, 10, 999999999, 1000000000, (-1000000000)] : List Int).length 3 (row cI ([0, 1, (-1), 5, 10, 999999999, 1000000000, (-1000000000)] : List Int))] rfl (by decide) (by simp) (by intro j o hj; exact match j, hj with | 0, hj => by cases hj; rfl | 1, hj => by cases hj; exact (congrArg some (renO_row cI_pure _ _ _ _ _ _)).symm | j + 2, hj => by cases hj) rfl).mono (by rintro _ _ ⟨_, _, ⟨rfl, rfl⟩, rfl, rfl⟩; exact ⟨rfl, (by simp only [nxtL, putSel, List.map_cons, List.map_nil, List.drop, List.length_cons, List.length_nil, renO_row cI_pure]; rfl)⟩), ?_⟩
            rintro _ _ ⟨rfl, rfl⟩
            refine ⟨_, ACall.pure0 (ok74x v21) _ rfl (fun _ => rfl), ?_⟩
            rintro _ _ ⟨rfl, rfl⟩
            refine ⟨rfl, _, fun _ => [.int .i64 2, .int .i64 v21, .str [], .int .i64 0, .nils], rfl, one_set rfl, ?_⟩
            obtain rfl := Option.some.inj h
            refine ⟨rfl, _, rfl, ?_⟩
            exact ⟨[0], .agg [.int .i64 ((TValue.mk 2 v21 [] 0 []).fKind), .int .i64 ((TValue.mk 2 v21 [] 0 []).fNum), .str ((TValue.mk 2 v21 [] 0 []).fStr), .int .i64 ((TValue.mk 2 v21 [] 0 []).fNext), sl 8 TEntry.cells ((TValue.mk 2 v21 [] 0 []).fItems)], [.row g1000 3 1 100 (fun _ => [sl 1 cB v22.fB, .int .i64 v22.fI, .int .i64 v22.fH])], by decide, (show 1 ≤ 1 by decide), .agg_l ⟨.int_eq rfl, .int_eq rfl, .str_eq rfl, .int_eq rfl, fz_nils, trivial⟩, ⟨⟨fun _ => ⟨rfl, rfl⟩, rfl, rfl, rfl, fun _ _ => ⟨.slc_eq rfl (fun _ _ => rfl), .int_eq rfl, .int_eq rfl, trivial⟩⟩, trivial⟩, rfl, rfl⟩
          · replace h := F_beq hb20 h
            refine .direct ?_
            obtain ⟨⟨v24, v25⟩, hv26, h⟩ := bind_some h
            refine ⟨fun res h' => res = .int .i64 v24 ∧ h' = [.row g1000 3 1 100 (fun _ => [sl 1 cB v25.fB, .int .i64 v25.fI, .int .i64 v25.fH]), .row 0 5 1 40 (fun _ => [.int .i64 0, .int .i64 0, .str [], .int .i64 0, .nils])], (ACall.over (ok40 (g1000 := g1000) hv26) [0] [.row g1000 3 1 100 (fun _ => [sl 1 cB v2.fB, .int .i64 v2.fI, .int .i64 v2.fH]), .row 0 5 1 40 (fun _ => [.int .i64 0, .int .i64 0, .str [], .int .i64 0, .nils])] rfl (by decide) (by simp) (by intro j o hj; exact match j, hj with | 0, hj => by cases hj; rfl | j + 1, hj => by cases hj) rfl).mono (by rintro _ _ ⟨_, _, ⟨rfl, rfl⟩, rfl, rfl⟩; exact ⟨rfl, rfl⟩), ?_⟩
            rintro _ _ ⟨rfl, rfl⟩
            refine ⟨_, ACall.pure0 (ok74x (W64 (v24 - 5))) _ rfl (fun _ => rfl), ?_⟩
            rintro _ _ ⟨rfl, rfl⟩
            refine ⟨rfl, _, fun _ => [.int .i64 2, .int .i64 (W64 (v24 - 5)), .str [], .int .i64 0, .nils], rfl, one_set rfl, ?_⟩
            obtain rfl := Option.some.inj h
            refine ⟨rfl, _, rfl, ?_⟩
            exact ⟨[0], .agg [.int .i64 ((TValue.mk 2 (W64 (v24 - 5)) [] 0 []).fKind), .int .i64 ((TValue.mk 2 (W64 (v24 - 5)) [] 0 []).fNum), .str ((TValue.mk 2 (W64 (v24 - 5)) [] 0 []).fStr), .int .i64 ((TValue.mk 2 (W64 (v24 - 5)) [] 0 []).fNext), sl 8 TEntry.cells ((TValue.mk 2 (W64 (v24 - 5)) [] 0 []).fItems)], [.row g1000 3 1 100 (fun _ => [sl 1 cB v25.fB, .int .i64 v25.fI, .int .i64 v25.fH])], by decide, (show 1 ≤ 1 by decide), .agg_l ⟨.int_eq rfl, .int_eq rfl, .str_eq rfl, .int_eq rfl, fz_nils, trivial⟩, ⟨⟨fun _ => ⟨rfl, rfl⟩, rfl, rfl, rfl, fun _ _ => ⟨.slc_eq rfl (fun _ _ => rfl), .int_eq rfl, .int_eq rfl, trivial⟩⟩, trivial⟩, rfl, rfl⟩
theorem ow89 {a0 : TL1Cur} {r : TValue × TL1Cur} {g1000 : Nat} (h : m89 a0 = some r) : ACall Tryd.prog 89 [.optr 0 g1000 0 0] [.row g1000 3 1 100 (fun _ => [sl 1 cB a0.fB, .int .i64 a0.fI, .int .i64 a0.fH])] (fun res h => res = .agg [.int .i64 r.1.fKind, .int .i64 r.1.fNum, .str r.1.fStr, .int .i64 r.1.fNext, .own 1 0 0 r.1.fItems.length] ∧ h = [.row g1000 3 1 100 (fun _ => [sl 1 cB r.2.fB, .int .i64 r.2.fI, .int .i64 r.2.fH]), .row 0 8 r.1.fItems.length 55 (row TEntry.cells r.1.fItems)]) := by
  refine ACall.of_vc tabT_ok mixed Tryd.func89 rfl (by kernel_rfl) _ _ _ rfl (by kernel_rfl) ?_
  unfold m89 at h
  refine .direct ?_
  refine .direct ?_
  refine .direct ?_
  obtain ⟨⟨v1, v2⟩, hv3, h⟩ := bind_some h
  refine ⟨fun res h' => res = .int .i64 v1 ∧ h' = [.row g1000 3 1 100 (fun _ => [sl 1 cB v2.fB, .int .i64 v2.fI, .int .i64 v2.fH]), .row 0 5 1 40 (fun _ => [.int .i64 0, .int .i64 0, .str [], .int .i64 0, .nils])], (ACall.over (ok40 (g1000 := g1000) hv3) [0] [.row g1000 3 1 100 (fun _ => [sl 1 cB a0.fB, .int .i64 a0.fI, .int .i64 a0.fH]), .row 0 5 1 40 (fun _ => [.int .i64 0, .int .i64 0, .str [], .int .i64 0, .nils])] rfl (by decide) (by simp) (by intro j o hj; exact match j, hj with | 0, hj => by cases hj; rfl | j + 1, hj => by cases hj) rfl).mono (by rintro _ _ ⟨_, _, ⟨rfl, rfl⟩, rfl, rfl⟩; exact ⟨rfl, rfl⟩), ?_⟩
  rintro _ _ ⟨rfl, rfl⟩
  refine .direct ?_
  refine splitB.mk (fun hb4 => ?_) (fun hb4 => ?_)
  · replace h := T_beq hb4 h
    refine .direct ?_
    refine ⟨rfl, _, fun _ => [.int .i64 0, .int .i64 0, .str [], .int .i64 0, .nils], rfl, one_set rfl, ?_⟩
    obtain rfl := Option.some.inj h
    refine ⟨rfl, _, rfl, ?_⟩
    exact ⟨[0, 3], .agg [.int .i64 ((TValue.mk 0 0 [] 0 []).fKind), .int .i64 ((TValue.mk 0 0 [] 0 []).fNum), .str ((TValue.mk 0 0 [] 0 []).fStr), .int .i64 ((TValue.mk 0 0 [] 0 []).fNext), .own 1 0 0 ((TValue.mk 0 0 [] 0 []).fItems).length], [.row g1000 3 1 100 (fun _ => [sl 1 cB v2.fB, .int .i64 v2.fI, .int .i64 v2.fH]), .row 0 8 ((TValue.mk 0 0 [] 0 []).fItems).length 55 (row TEntry.cells ((TValue.mk 0 0 [] 0 []).fItems))], by decide, (show 1 ≤ 2 by decide), .agg_l ⟨.int_eq rfl, .int_eq rfl, .str_eq rfl, .int_eq rfl, (.nilo _ _ _ _ _ _ rfl rfl rfl), trivial⟩, ⟨⟨fun _ => ⟨rfl, rfl⟩, rfl, rfl, rfl, fun _ _ => ⟨.slc_eq rfl (fun _ _ => rfl), .int_eq rfl, .int_eq rfl, trivial⟩⟩, ⟨(show 1 ≤ 1 by decide), rfl⟩, trivial⟩, rfl, rfl⟩
  · replace h := F_beq hb4 h
    refine .direct ?_
    refine splitB.mk (fun hb5 => ?_) (fun hb5 => ?_)
    · replace h := T_beq hb5 h
      refine .direct ?_
      obtain ⟨⟨v6, v7⟩, hv8, h⟩ := bind_some h
      refine ⟨fun res h' => res = .bool v6 ∧ h' = [.row g1000 3 1 100 (fun _ => [sl 1 cB v7.fB, .int .i64 v7.fI, .int .i64 v7.fH]), .row 0 5 1 40 (fun _ => [.int .i64 0, .int .i64 0, .str [], .int .i64 0, .nils])], (ACall.over (ok37 (g1000 := g1000) hv8) [0] [.row g1000 3 1 100 (fun _ => [sl 1 cB v2.fB, .int .i64 v2.fI, .int .i64 v2.fH]), .row 0 5 1 40 (fun _ => [.int .i64 0, .int .i64 0, .str [], .int .i64 0, .nils])] rfl (by decide) (by simp) (by intro j o hj; exact match j, hj with | 0, hj => by cases hj; rfl | j + 1, hj => by cases hj) rfl).mono (by rintro _ _ ⟨_, _, ⟨rfl, rfl⟩, rfl, rfl⟩; exact ⟨rfl, rfl⟩), ?_⟩
      rintro _ _ ⟨rfl, rfl⟩
      obtain ⟨v9, hv10, h⟩ := bind_some h
      refine ⟨fun res h' => res = .agg [.int .i64 v9.fKind, .int .i64 v9.fNum, .str v9.fStr, .int .i64 v9.fNext, .own 2 0 0 v9.fItems.length] ∧ h' = [.row g1000 3 1 100 (fun _ => [sl 1 cB v7.fB, .int .i64 v7.fI, .int .i64 v7.fH]), .row 0 5 1 40 (fun _ => [.int .i64 0, .int .i64 0, .str [], .int .i64 0, .nils]), .row 0 8 v9.fItems.length 55 (row TEntry.cells v9.fItems)], (ACall.frame (ow105 hv10) [.row g1000 3 1 100 (fun _ => [sl 1 cB v7.fB, .int .i64 v7.fI, .int .i64 v7.fH]), .row 0 5 1 40 (fun _ => [.int .i64 0, .int .i64 0, .str [], .int .i64 0, .nils])] rfl).mono (by rintro _ _ ⟨_, _, ⟨rfl, rfl⟩, rfl, rfl⟩; exact ⟨rfl, by simp only [List.map_cons, List.map_nil, shiftO_row TEntry.cells_pure]; rfl⟩), ?_⟩
      rintro _ _ ⟨rfl, rfl⟩
      refine ⟨rfl, _, fun _ => [.int .i64 v9.fKind, .int .i64 v9.fNum, .str v9.fStr, .int .i64 v9.fNext, .own 2 0 0 v9.fItems.length], rfl, one_set rfl, ?_⟩
      obtain rfl := Option.some.inj h
      refine ⟨rfl, _, rfl, ?_⟩
      exact ⟨[0, 2], .agg [.int .i64 v9.fKind, .int .i64 v9.fNum, .str v9.fStr, .int .i64 v9.fNext, .own 1 0 0 v9.fItems.length], [.row g1000 3 1 100 (fun _ => [sl 1 cB v7.fB, .int .i64 v7.fI, .int .i64 v7.fH]), .row 0 8 v9.fItems.length 55 (row TEntry.cells v9.fItems)], by decide, (show 1 ≤ 2 by decide), .agg_l ⟨.int_eq rfl, .int_eq rfl, .str_eq rfl, .int_eq rfl, .own_eq rfl ⟨_, _, _, _, rfl⟩ ⟨_, _, _, _, rfl⟩ rfl rfl, trivial⟩, ⟨⟨fun _ => ⟨rfl, rfl⟩, rfl, rfl, rfl, fun _ _ => ⟨.slc_eq rfl (fun _ _ => rfl), .int_eq rfl, .int_eq rfl, trivial⟩⟩, ⟨fun h0 => absurd (show 1 < 1 from h0) (by decide), rfl, rfl, rfl, fz_row TEntry.cells_pure⟩, trivial⟩, rfl, rfl⟩
    · replace h := F_beq hb5 h
      obtain ⟨o12, ho13, hk14⟩ := bind_some h
      replace h := ho13
      refine .cut (fun σ η => ∃ b11, b11 = o12 ∧ σ = [(0, .optr 0 g1000 0 0), (2, .optr 1 0 0 0), (4, .int .i64 v1), (13, .bool b11)] ∧ η = [.row g1000 3 1 100 (fun _ => [sl 1 cB v2.fB, .int .i64 v2.fI, .int .i64 v2.fH]), .row 0 5 1 40 (fun _ => [.int .i64 0, .int .i64 0, .str [], .int .i64 0, .nils])]) ?_ ?_
      · refine .direct ?_
        refine splitB.mk (fun hb15 => ?_) (fun hb15 => ?_)
        · replace h := T_beq hb15 h
          exact ⟨[(0, .optr 0 g1000 0 0), (2, .optr 1 0 0 0), (4, .int .i64 v1), (13, .bool (v1 == 2))], [.row g1000 3 1 100 (fun _ => [sl 1 cB v2.fB, .int .i64 v2.fI, .int .i64 v2.fH]), .row 0 5 1 40 (fun _ => [.int .i64 0, .int .i64 0, .str [], .int .i64 0, .nils])], ⟨[0, 1], by decide, (show 1 ≤ 2 by decide), ⟨.optr_eq rfl ⟨_, _, _, _, rfl⟩ ⟨_, _, _, _, rfl⟩ rfl rfl, .optr_eq rfl ⟨_, _, _, _, rfl⟩ ⟨_, _, _, _, rfl⟩ rfl rfl, .int_eq rfl, .bool_eq rfl, trivial⟩, ⟨⟨fun _ => ⟨rfl, rfl⟩, rfl, rfl, rfl, fun _ _ => ⟨.slc_eq rfl (fun _ _ => rfl), .int_eq rfl, .int_eq rfl, trivial⟩⟩, ⟨fun h0 => absurd (show 1 < 1 from h0) (by decide), rfl, rfl, rfl, fun _ _ => ⟨.int_eq rfl, .int_eq rfl, .str_eq rfl, .int_eq rfl, .nils, trivial⟩⟩, trivial⟩⟩, (v1 == 2), Option.some.inj h, rfl, rfl⟩
        · replace h := F_beq hb15 h
          exact ⟨[(0, .optr 0 g1000 0 0), (2, .optr 1 0 0 0), (4, .int .i64 v1), (13, .bool (v1 == 3))], [.row g1000 3 1 100 (fun _ => [sl 1 cB v2.fB, .int .i64 v2.fI, .int .i64 v2.fH]), .row 0 5 1 40 (fun _ => [.int .i64 0, .int .i64 0, .str [], .int .i64 0, .nils])], ⟨[0, 1], by decide, (show 1 ≤ 2 by decide), ⟨.optr_eq rfl ⟨_, _, _, _, rfl⟩ ⟨_, _, _, _, rfl⟩ rfl rfl, .optr_eq rfl ⟨_, _, _, _, rfl⟩ ⟨_, _, _, _, rfl⟩ rfl rfl, .int_eq rfl, .bool_eq rfl, trivial⟩, ⟨⟨fun _ => ⟨rfl, rfl⟩, rfl, rfl, rfl, fun _ _ => ⟨.slc_eq rfl (fun _ _ => rfl), .int_eq rfl, .int_eq rfl, trivial⟩⟩, ⟨fun h0 => absurd (show 1 < 1 from h0) (by decide), rfl, rfl, rfl, fun _ _ => ⟨.int_eq rfl, .int_eq rfl, .str_eq rfl, .int_eq rfl, .nils, trivial⟩⟩, trivial⟩⟩, (v1 == 3), Option.some.inj h, rfl, rfl⟩
      · rintro _ _ ⟨b11, rfl, rfl, rfl⟩
        replace h := hk14
        refine splitB.mk (fun hb16 => ?_) (fun hb16 => ?_)
        · replace h := T_var hb16 h
          refine .direct ?_
          obtain ⟨⟨v17, v18⟩, hv19, h⟩ := bind_some h
          refine ⟨fun res h' => res = .str v17 ∧ h' = [.row g1000 3 1 100 (fun _ => [sl 1 cB v18.fB, .int .i64 v18.fI, .int .i64 v18.fH]), .row 0 5 1 40 (fun _ => [.int .i64 0, .int .i64 0, .str [], .int .i64 0, .nils])], (ACall.over (ok107 (g1000 := g1000) hv19) [0] [.row g1000 3 1 100 (fun _ => [sl 1 cB v2.fB, .int .i64 v2.fI, .int .i64 v2.fH]), .row 0 5 1 40 (fun _ => [.int .i64 0, .int .i64 0, .str [], .int .i64 0, .nils])] rfl (by decide) (by simp) (by intro j o hj; exact match j, hj with | 0, hj => by cases hj; rfl | j + 1, hj => by cases hj) rfl).mono (by rintro _ _ ⟨_, _, ⟨rfl, rfl⟩, rfl, rfl⟩; exact ⟨rfl, rfl⟩), ?_⟩
          rintro _ _ ⟨rfl, rfl⟩
          refine ⟨_, ACall.pure0 (ok106x v17) _ rfl (fun _ => rfl), ?_⟩
          rintro _ _ ⟨rfl, rfl⟩
          refine ⟨rfl, _, fun _ => [.int .i64 3, .int .i64 0, .str v17, .int .i64 0, .nils], rfl, one_set rfl, ?_⟩
          obtain rfl := Option.some.inj h
          refine ⟨rfl, _, rfl, ?_⟩
          exact ⟨[0, 3], .agg [.int .i64 ((TValue.mk 3 0 v17 0 []).fKind), .int .i64 ((TValue.mk 3 0 v17 0 []).fNum), .str ((TValue.mk 3 0 v17 0 []).fStr), .int .i64 ((TValue.mk 3 0 v17 0 []).fNext), .own 1 0 0 ((TValue.mk 3 0 v17 0 []).fItems).length], [.row g1000 3 1 100 (fun _ => [sl 1 cB v18.fB, .int .i64 v18.fI, .int .i64 v18.fH]), .row 0 8 ((TValue.mk 3 0 v17 0 []).fItems).length 55 (row TEntry.cells ((TValue.mk 3 0 v17 0 []).fItems))], by decide, (show 1 ≤ 2 by decide), .agg_l ⟨.int_eq rfl, .int_eq rfl, .str_eq rfl, .int_eq rfl, (.nilo _ _ _ _ _ _ rfl rfl rfl), trivial⟩, ⟨⟨fun _ => ⟨rfl, rfl⟩, rfl, rfl, rfl, fun _ _ => ⟨.slc_eq rfl (fun _ _ => rfl), .int_eq rfl, .int_eq rfl, trivial⟩⟩, ⟨(show 1 ≤ 1 by decide), rfl⟩, trivial⟩, rfl, rfl⟩
        · replace h := F_var hb16 h
          refine .direct ?_
          refine splitB.mk (fun hb20 => ?_) (fun hb20 => ?_)
          · replace h := T_beq hb20 h
            refine .direct ?_
            refine ⟨row cI ([0, 1, (-1), 5, 10, 999999999, 1000000000, (-1000000000)] : List Int), row_lit cI ([0, 1, (-1), 5, 10, 999999999, 1000000000, (-1000000000)] : List Int) rfl (cll_refl rfl), ?_⟩
            obtain ⟨⟨v21, v22⟩, hv23, h⟩ := bind_some h
            refine ⟨fun res h' => res = .int .i64 v21 ∧ h' = [.row g1000 3 1 100 (fun _ => [sl 1 cB v22.fB, .int .i64 v22.fI, .int .i64 v22.fH]), .row 0 5 1 40 (fun _ => [.int .i64 0, .int .i64 0, .str [], .int .i64 0, .nils]), .row 0 1 ([0, 1, (-1), 5, 10, 999999999, 1000000000, (-1000000000)] : List Int).length 3 (row cI ([0, 1, (-1), 5, 10, 999999999, 1000000000, (-1000000000)] : List Int))], (ACall.over (ok85 (g1000 := g1000) (g1001 := 0) hv23) [0, 2] [.row g1000 3 1 100 (fun _ => [sl 1 cB v2.fB, .int .i64 v2.fI, .int .i64 v2.fH]), .row 0 5 1 40 (fun _ => [.int .i64 0, .int .i64 0, .str [], .int .i64 0, .nils]), .row 0 1 ([0, 1, (-1), 5, 10, 999999999, 1000000000, (-1000000000)] : List Int).length 3 (row cI ([0, 1, (-1), 5, 10, 999999999, 1000000000, (-1000000000)] : List Int))] rfl (by decide) (by simp) (by intro j o hj; exact match j, hj with | 0, hj => by cases hj; rfl | 1, hj => by cases hj; exact (congrArg some (renO_row cI_pure _ _ _ _ _ _)).symm | j + 2, hj => by cases hj) rfl).mono (by rintro _ _ ⟨_, _, ⟨rfl, rfl⟩, rfl, rfl⟩; exact ⟨rfl, (by simp only [nxtL, putSel, List.map_cons, List.map_nil, List.drop, List.length_cons, List.length_nil, renO_row cI_pure]; rfl)⟩), ?_⟩
            rintro _ _ ⟨rfl, rfl⟩
            refine ⟨_, ACall.pure0 (ok74x v21) _ rfl (fun _ => rfl), ?_⟩
            rintro _ _ ⟨rfl, rfl⟩
            refine ⟨rfl, _, fun _ => [.int .i64 2, .int .i64 v21, .str [], .int .i64 0, .nils], rfl, one_set rfl, ?_⟩
            obtain rfl := Option.some.inj h
            refine ⟨rfl, _, rfl, ?_⟩
            exact ⟨[0, 4], .agg [.int .i64 ((TValue.mk 2 v21 [] 0 []).fKind), .int .i64 ((TValue.mk 2 v21 [] 0 []).fNum), .str ((TValue.mk 2 v21 [] 0 []).fStr), .int .i64 ((TValue.mk 2 v21 [] 0 []).fNext), .own 1 0 0 ((TValue.mk 2 v21 [] 0 []).fItems).length], [.row g1000 3 1 100 (fun _ => [sl 1 cB v22.fB, .int .i64 v22.fI, .int .i64 v22.fH]), .row 0 8 ((TValue.mk 2 v21 [] 0 []).fItems).length 55 (row TEntry.cells ((TValue.mk 2 v21 [] 0 []).fItems))], by decide, (show 1 ≤ 2 by decide), .agg_l ⟨.int_eq rfl, .int_eq rfl, .str_eq rfl, .int_eq rfl, (.nilo _ _ _ _ _ _ rfl rfl rfl), trivial⟩, ⟨⟨fun _ => ⟨rfl, rfl⟩, rfl, rfl, rfl, fun _ _ => ⟨.slc_eq rfl (fun _ _ => rfl), .int_eq rfl, .int_eq rfl, trivial⟩⟩, ⟨(show 1 ≤ 1 by decide), rfl⟩, trivial⟩, rfl, rfl⟩
          · replace h := F_beq hb20 h
            refine .direct ?_
            obtain ⟨⟨v24, v25⟩, hv26, h⟩ := bind_some h
            refine ⟨fun res h' => res = .int .i64 v24 ∧ h' = [.row g1000 3 1 100 (fun _ => [sl 1 cB v25.fB, .int .i64 v25.fI, .int .i64 v25.fH]), .row 0 5 1 40 (fun _ => [.int .i64 0, .int .i64 0, .str [], .int .i64 0, .nils])], (ACall.over (ok40 (g1000 := g1000) hv26) [0] [.row g1000 3 1 100 (fun _ => [sl 1 cB v2.fB, .int .i64 v2.fI, .int .i64 v2.fH]), .row 0 5 1 40 (fun _ => [.int .i64 0, .int .i64 0, .str [], .int .i64 0, .nils])] rfl (by decide) (by simp) (by intro j o hj; exact match j, hj with | 0, hj => by cases hj; rfl | j + 1, hj => by cases hj) rfl).mono (by rintro _ _ ⟨_, _, ⟨rfl, rfl⟩, rfl, rfl⟩; exact ⟨rfl, rfl⟩), ?_⟩
            rintro _ _ ⟨rfl, rfl⟩
            refine ⟨_, ACall.pure0 (ok74x (W64 (v24 - 5))) _ rfl (fun _ => rfl), ?_⟩
            rintro _ _ ⟨rfl, rfl⟩
            refine ⟨rfl, _, fun _ => [.int .i64 2, .int .i64 (W64 (v24 - 5)), .str [], .int .i64 0, .nils], rfl, one_set rfl, ?_⟩
            obtain rfl := Option.some.inj h
            refine ⟨rfl, _, rfl, ?_⟩
            exact ⟨[0, 3], .agg [.int .i64 ((TValue.mk 2 (W64 (v24 - 5)) [] 0 []).fKind), .int .i64 ((TValue.mk 2 (W64 (v24 - 5)) [] 0 []).fNum), .str ((TValue.mk 2 (W64 (v24 - 5)) [] 0 []).fStr), .int .i64 ((TValue.mk 2 (W64 (v24 - 5)) [] 0 []).fNext), .own 1 0 0 ((TValue.mk 2 (W64 (v24 - 5)) [] 0 []).fItems).length], [.row g1000 3 1 100 (fun _ => [sl 1 cB v25.fB, .int .i64 v25.fI, .int .i64 v25.fH]), .row 0 8 ((TValue.mk 2 (W64 (v24 - 5)) [] 0 []).fItems).length 55 (row TEntry.cells ((TValue.mk 2 (W64 (v24 - 5)) [] 0 []).fItems))], by decide, (show 1 ≤ 2 by decide), .agg_l ⟨.int_eq rfl, .int_eq rfl, .str_eq rfl, .int_eq rfl, (.nilo _ _ _ _ _ _ rfl rfl rfl), trivial⟩, ⟨⟨fun _ => ⟨rfl, rfl⟩, rfl, rfl, rfl, fun _ _ => ⟨.slc_eq rfl (fun _ _ => rfl), .int_eq rfl, .int_eq rfl, trivial⟩⟩, ⟨(show 1 ≤ 1 by decide), rfl⟩, trivial⟩, rfl, rfl⟩
def m87 (a0 : TValue) (a1 : TKey) (a2 : TValue) : Option (TValue) :=
  (
    lapp 96 ([] : List TEntry) a0.fItems >>= fun l5 =>
    some l5
   : Option ((List TEntry))) >>= fun l1 =>
  m90 a0 a1 >>= fun v7 =>
  ((
    (if v7 ≥ 0 then
      idx l1 v7 >>= fun x13 =>
      some (.inr (TValue.mk a0.fKind a0.fNum a0.fStr a0.fNext (l1.set v7.toNat (TEntry.mk x13.fKey a2))))
    else
      some (.inl ()))
   : Option ((Unit) ⊕ TValue)) >>= fun o9 => match o9 with
    | .inr r => some r
    | .inl _ =>
      lapp 96 l1 ([(TEntry.mk a1 a2)] : List TEntry) >>= fun l15 =>
      (
        some ()
       : Option (Unit)) >>= fun _ =>
      (if a1.fText = true then
        some (TValue.mk a0.fKind a0.fNum a0.fStr a0.fNext l15)
      else
        m91 a0.fNext (W64 (a1.fNum + 1)) >>= fun v21 =>
        some (TValue.mk a0.fKind a0.fNum a0.fStr v21 l15))
  )
theorem ok87 {a0 : TValue} {a1 : TKey} {a2 : TValue} {r : TValue} (h : m87 a0 a1 a2 = some r) : ACall Tryd.prog 87 [.agg [.int .i64 a0.fKind, .int .i64 a0.fNum, .str a0.fStr, .int .i64 a0.fNext, sl 8 TEntry.cells a0.fItems], .agg [.bool a1.fText, .int .i64 a1.fNum, .str a1.fStr], .agg [.int .i64 a2.fKind, .int .i64 a2.fNum, .str a2.fStr, .int .i64 a2.fNext, sl 8 TEntry.cells a2.fItems]] [] (fun res h => res = .agg [.int .i64 r.fKind, .int .i64 r.fNum, .str r.fStr, .int .i64 r.fNext, sl 8 TEntry.cells r.fItems] ∧ h = []) := by
  refine ACall.of_vc tabT_ok mixed Tryd.func87 rfl (by kernel_rfl) _ _ _ rfl (by kernel_rfl) ?_
  unfold m87 at h
  refine .direct ?_
  refine .direct ?_
  refine ⟨rfl, _, rfl, ?_⟩
  refine ⟨rfl, _, fun _ => [.int .i64 a0.fKind, .int .i64 a0.fNum, .str a0.fStr, .int .i64 a0.fNext, sl 8 TEntry.cells a0.fItems], rfl, one_set rfl, ?_⟩
  obtain ⟨o2, ho3, hk4⟩ := bind_some h
  replace h := ho3
  refine .cut (fun σ η => ∃ l1, l1 = o2 ∧ σ = [(3, .optr 0 0 0 0), (4, .optr 1 0 0 0), (5, .optr 2 0 0 0), (6, .optr 3 0 0 0), (7, .optr 4 0 0 0)] ∧ η = [.row 0 5 1 40 (fun _ => [.int .i64 a0.fKind, .int .i64 a0.fNum, .str a0.fStr, .int .i64 a0.fNext, sl 8 TEntry.cells a0.fItems]), .row 0 3 1 44 (fun _ => [.bool a1.fText, .int .i64 a1.fNum, .str a1.fStr]), .row 0 5 1 40 (fun _ => [.int .i64 a2.fKind, .int .i64 a2.fNum, .str a2.fStr, .int .i64 a2.fNext, sl 8 TEntry.cells a2.fItems]), .row 0 5 1 40 (fun _ => [.int .i64 0, .int .i64 0, .str [], .int .i64 0, .nils]), .row 0 5 1 40 (fun _ => [.int .i64 a0.fKind, .int .i64 a0.fNum, .str a0.fStr, .int .i64 a0.fNext, .own 5 0 0 l1.length]), .row 0 8 l1.length 55 (row TEntry.cells l1)]) ?_ ?_
  · refine ⟨row TEntry.cells ([] : List TEntry), row_lit TEntry.cells ([] : List TEntry) rfl (cll_refl rfl), ?_⟩
    refine ⟨rfl, ?_⟩
    refine ⟨rfl, _, rfl, ?_⟩
    obtain ⟨l5, hx6, h⟩ := bind_some h
    refine ⟨rfl, lapp_bd hx6, l5.length, row TEntry.cells l5, lapp_len hx6, lapp_row hx6 shows_all src_slc, ?_⟩
    refine ⟨rfl, ?_⟩
    refine ⟨rfl, _, fun _ => [.int .i64 a0.fKind, .int .i64 a0.fNum, .str a0.fStr, .int .i64 a0.fNext, .own 5 (0 + 1) 0 l5.length], rfl, one_set rfl, ?_⟩
    exact ⟨[(3, .optr 0 0 0 0), (4, .optr 1 0 0 0), (5, .optr 2 0 0 0), (6, .optr 3 0 0 0), (7, .optr 4 0 0 0)], [.row 0 5 1 40 (fun _ => [.int .i64 a0.fKind, .int .i64 a0.fNum, .str a0.fStr, .int .i64 a0.fNext, sl 8 TEntry.cells a0.fItems]), .row 0 3 1 44 (fun _ => [.bool a1.fText, .int .i64 a1.fNum, .str a1.fStr]), .row 0 5 1 40 (fun _ => [.int .i64 a2.fKind, .int .i64 a2.fNum, .str a2.fStr, .int .i64 a2.fNext, sl 8 TEntry.cells a2.fItems]), .row 0 5 1 40 (fun _ => [.int .i64 0, .int .i64 0, .str [], .int .i64 0, .nils]), .row 0 5 1 40 (fun _ => [.int .i64 a0.fKind, .int .i64 a0.fNum, .str a0.fStr, .int .i64 a0.fNext, .own 5 0 0 l5.length]), .row 0 8 l5.length 55 (row TEntry.cells l5)], ⟨[0, 1, 2, 3, 4, 5], by decide, (show 0 ≤ 6 by decide), ⟨.optr_eq rfl ⟨_, _, _, _, rfl⟩ ⟨_, _, _, _, rfl⟩ rfl rfl, .optr_eq rfl ⟨_, _, _, _, rfl⟩ ⟨_, _, _, _, rfl⟩ rfl rfl, .optr_eq rfl ⟨_, _, _, _, rfl⟩ ⟨_, _, _, _, rfl⟩ rfl rfl, .optr_eq rfl ⟨_, _, _, _, rfl⟩ ⟨_, _, _, _, rfl⟩ rfl rfl, .optr_eq rfl ⟨_, _, _, _, rfl⟩ ⟨_, _, _, _, rfl⟩ rfl rfl, trivial⟩, ⟨⟨fun h0 => absurd (show 0 < 0 from h0) (by decide), rfl, rfl, rfl, fun _ _ => ⟨.int_eq rfl, .int_eq rfl, .str_eq rfl, .int_eq rfl, .slc_eq rfl (fun _ _ => rfl), trivial⟩⟩, ⟨fun h0 => absurd (show 1 < 0 from h0) (by decide), rfl, rfl, rfl, fun _ _ => ⟨.bool_eq rfl, .int_eq rfl, .str_eq rfl, trivial⟩⟩, ⟨fun h0 => absurd (show 2 < 0 from h0) (by decide), rfl, rfl, rfl, fun _ _ => ⟨.int_eq rfl, .int_eq rfl, .str_eq rfl, .int_eq rfl, .slc_eq rfl (fun _ _ => rfl), trivial⟩⟩, ⟨fun h0 => absurd (show 3 < 0 from h0) (by decide), rfl, rfl, rfl, fun _ _ => ⟨.int_eq rfl, .int_eq rfl, .str_eq rfl, .int_eq rfl, .nils, trivial⟩⟩, ⟨fun h0 => absurd (show 4 < 0 from h0) (by decide), rfl, rfl, rfl, fun _ _ => ⟨.int_eq rfl, .int_eq rfl, .str_eq rfl, .int_eq rfl, .own_eq rfl ⟨_, _, _, _, rfl⟩ ⟨_, _, _, _, rfl⟩ rfl rfl, trivial⟩⟩, ⟨fun h0 => absurd (show 5 < 0 from h0) (by decide), rfl, rfl, rfl, fz_row TEntry.cells_pure⟩, trivial⟩⟩, l5, Option.some.inj h, rfl, rfl⟩
  · rintro _ _ ⟨l1, rfl, rfl, rfl⟩
    replace h := hk4
    refine .direct ?_
    refine ⟨rfl, _, rfl, ?_⟩
    refine ⟨rfl, _, rfl, ?_⟩
    obtain ⟨v7, hv8, h⟩ := bind_some h
    refine ⟨_, ACall.pure0 (ok90 hv8) _ rfl (fun _ => rfl), ?_⟩
    rintro _ _ ⟨rfl, rfl⟩
    obtain ⟨o9, ho10, hk11⟩ := bind_some h
    replace h := ho10
    refine .cut (fun σ η => .inl () = o9 ∧ σ = [(4, .optr 0 0 0 0), (5, .optr 1 0 0 0), (6, .optr 2 0 0 0), (7, .optr 3 0 0 0)] ∧ η = [.row 0 3 1 44 (fun _ => [.bool a1.fText, .int .i64 a1.fNum, .str a1.fStr]), .row 0 5 1 40 (fun _ => [.int .i64 a2.fKind, .int .i64 a2.fNum, .str a2.fStr, .int .i64 a2.fNext, sl 8 TEntry.cells a2.fItems]), .row 0 5 1 40 (fun _ => [.int .i64 0, .int .i64 0, .str [], .int .i64 0, .nils]), .row 0 5 1 40 (fun _ => [.int .i64 a0.fKind, .int .i64 a0.fNum, .str a0.fStr, .int .i64 a0.fNext, .own 4 0 0 l1.length]), .row 0 8 l1.length 55 (row TEntry.cells l1)]) ?_ ?_
    · refine .direct ?_
      refine splitB.mk (fun hb12 => ?_) (fun hb12 => ?_)
      · replace h := T_dec hb12 h
        refine .direct ?_
        refine ⟨rfl, ?_⟩
        refine ⟨rfl, _, rfl, ?_⟩
        refine ⟨rfl, _, rfl, ?_⟩
        obtain ⟨x13, hx14, h⟩ := bind_some h
        refine ⟨rfl, idx_bd hx14, _, Nat.zero_add _, ?_⟩
        refine ⟨rfl, ?_⟩
        refine ⟨rfl, _, row TEntry.cells (l1.set v7.toNat (TEntry.mk x13.fKey a2)), ((idx_row hx14).trans (TEntry.cells_eq x13)), row_set (idx_lt hx14) (TEntry.cells_eq (TEntry.mk x13.fKey a2)) ⟨.same _, .same _, .same _, .same _, .same _, .same _, .same _, .same _, trivial⟩, ?_⟩
        refine .direct ?_
        refine ⟨rfl, _, rfl, ?_⟩
        refine ⟨rfl, _, fun _ => [.int .i64 a0.fKind, .int .i64 a0.fNum, .str a0.fStr, .int .i64 a0.fNext, .own 5 0 0 l1.length], rfl, one_set rfl, ?_⟩
        obtain rfl := Option.some.inj h
        replace h := hk11
        obtain rfl := Option.some.inj h
        refine ⟨rfl, _, rfl, ?_⟩
        exact ⟨[], .agg [.int .i64 ((TValue.mk a0.fKind a0.fNum a0.fStr a0.fNext (l1.set v7.toNat (TEntry.mk x13.fKey a2))).fKind), .int .i64 ((TValue.mk a0.fKind a0.fNum a0.fStr a0.fNext (l1.set v7.toNat (TEntry.mk x13.fKey a2))).fNum), .str ((TValue.mk a0.fKind a0.fNum a0.fStr a0.fNext (l1.set v7.toNat (TEntry.mk x13.fKey a2))).fStr), .int .i64 ((TValue.mk a0.fKind a0.fNum a0.fStr a0.fNext (l1.set v7.toNat (TEntry.mk x13.fKey a2))).fNext), sl 8 TEntry.cells ((TValue.mk a0.fKind a0.fNum a0.fStr a0.fNext (l1.set v7.toNat (TEntry.mk x13.fKey a2))).fItems)], [], by decide, (show 0 ≤ 0 by decide), .agg_l ⟨.int_eq rfl, .int_eq rfl, .str_eq rfl, .int_eq rfl, (fz_frz2 TEntry.cells_pure (by decide) rfl shows_all (by simp)), trivial⟩, trivial, rfl, rfl⟩
      · replace h := F_dec hb12 h
        exact ⟨[(4, .optr 0 0 0 0), (5, .optr 1 0 0 0), (6, .optr 2 0 0 0), (7, .optr 3 0 0 0)], [.row 0 3 1 44 (fun _ => [.bool a1.fText, .int .i64 a1.fNum, .str a1.fStr]), .row 0 5 1 40 (fun _ => [.int .i64 a2.fKind, .int .i64 a2.fNum, .str a2.fStr, .int .i64 a2.fNext, sl 8 TEntry.cells a2.fItems]), .row 0 5 1 40 (fun _ => [.int .i64 0, .int .i64 0, .str [], .int .i64 0, .nils]), .row 0 5 1 40 (fun _ => [.int .i64 a0.fKind, .int .i64 a0.fNum, .str a0.fStr, .int .i64 a0.fNext, .own 4 0 0 l1.length]), .row 0 8 l1.length 55 (row TEntry.cells l1)], ⟨[1, 2, 3, 4, 5], by decide, (show 0 ≤ 5 by decide), ⟨.optr_eq rfl ⟨_, _, _, _, rfl⟩ ⟨_, _, _, _, rfl⟩ rfl rfl, .optr_eq rfl ⟨_, _, _, _, rfl⟩ ⟨_, _, _, _, rfl⟩ rfl rfl, .optr_eq rfl ⟨_, _, _, _, rfl⟩ ⟨_, _, _, _, rfl⟩ rfl rfl, .optr_eq rfl ⟨_, _, _, _, rfl⟩ ⟨_, _, _, _, rfl⟩ rfl rfl, trivial⟩, ⟨⟨fun h0 => absurd (show 0 < 0 from h0) (by decide), rfl, rfl, rfl, fun _ _ => ⟨.bool_eq rfl, .int_eq rfl, .str_eq rfl, trivial⟩⟩, ⟨fun h0 => absurd (show 1 < 0 from h0) (by decide), rfl, rfl, rfl, fun _ _ => ⟨.int_eq rfl, .int_eq rfl, .str_eq rfl, .int_eq rfl, .slc_eq rfl (fun _ _ => rfl), trivial⟩⟩, ⟨fun h0 => absurd (show 2 < 0 from h0) (by decide), rfl, rfl, rfl, fun _ _ => ⟨.int_eq rfl, .int_eq rfl, .str_eq rfl, .int_eq rfl, .nils, trivial⟩⟩, ⟨fun h0 => absurd (show 3 < 0 from h0) (by decide), rfl, rfl, rfl, fun _ _ => ⟨.int_eq rfl, .int_eq rfl, .str_eq rfl, .int_eq rfl, .own_eq rfl ⟨_, _, _, _, rfl⟩ ⟨_, _, _, _, rfl⟩ rfl rfl, trivial⟩⟩, ⟨fun h0 => absurd (show 4 < 0 from h0) (by decide), rfl, rfl, rfl, fz_row TEntry.cells_pure⟩, trivial⟩⟩, Option.some.inj h, rfl, rfl⟩
    · rintro _ _ ⟨rfl, rfl, rfl⟩
      replace h := hk11
      refine .direct ?_
      refine ⟨rfl, ?_⟩
      refine ⟨rfl, _, rfl, ?_⟩
      refine ⟨rfl, _, rfl, ?_⟩
      refine ⟨rfl, _, rfl, ?_⟩
      refine ⟨row TEntry.cells ([(TEntry.mk a1 a2)] : List TEntry), row_lit TEntry.cells ([(TEntry.mk a1 a2)] : List TEntry) rfl (cll_cons (TEntry.cells_eq _) ⟨.same _, .same _, .same _, .same _, .same _, .same _, .same _, .same _, trivial⟩ trivial), ?_⟩
      obtain ⟨l15, hx16, h⟩ := bind_some h
      refine ⟨rfl, rfl, lapp_bd hx16, l15.length, row TEntry.cells l15, lapp_len hx16, lapp_row hx16 shows_all (src_own shows_all), ?_⟩
      refine ⟨rfl, ?_⟩
      refine ⟨rfl, _, fun _ => [.int .i64 a0.fKind, .int .i64 a0.fNum, .str a0.fStr, .int .i64 a0.fNext, .own 4 (0 + 1) 0 l15.length], rfl, one_set rfl, ?_⟩
      refine .direct ?_
      obtain ⟨o17, ho18, hk19⟩ := bind_some h
      replace h := ho18
      refine .cut (fun σ η => () = o17 ∧ σ = [(4, .optr 0 0 0 0), (6, .optr 1 0 0 0), (7, .optr 2 0 0 0), (37, .bool (!a1.fText))] ∧ η = [.row 0 3 1 44 (fun _ => [.bool a1.fText, .int .i64 a1.fNum, .str a1.fStr]), .row 0 5 1 40 (fun _ => [.int .i64 0, .int .i64 0, .str [], .int .i64 0, .nils]), .row 0 5 1 40 (fun _ => [.int .i64 a0.fKind, .int .i64 a0.fNum, .str a0.fStr, .int .i64 a0.fNext, .own 3 0 0 l15.length]), .row 0 8 l15.length 55 (row TEntry.cells l15)]) ?_ ?_
      · refine ⟨rfl, ?_⟩
        refine ⟨rfl, _, rfl, ?_⟩
        exact ⟨[(4, .optr 0 0 0 0), (6, .optr 1 0 0 0), (7, .optr 2 0 0 0), (37, .bool (!a1.fText))], [.row 0 3 1 44 (fun _ => [.bool a1.fText, .int .i64 a1.fNum, .str a1.fStr]), .row 0 5 1 40 (fun _ => [.int .i64 0, .int .i64 0, .str [], .int .i64 0, .nils]), .row 0 5 1 40 (fun _ => [.int .i64 a0.fKind, .int .i64 a0.fNum, .str a0.fStr, .int .i64 a0.fNext, .own 3 0 0 l15.length]), .row 0 8 l15.length 55 (row TEntry.cells l15)], ⟨[0, 2, 3, 4], by decide, (show 0 ≤ 4 by decide), ⟨.optr_eq rfl ⟨_, _, _, _, rfl⟩ ⟨_, _, _, _, rfl⟩ rfl rfl, .optr_eq rfl ⟨_, _, _, _, rfl⟩ ⟨_, _, _, _, rfl⟩ rfl rfl, .optr_eq rfl ⟨_, _, _, _, rfl⟩ ⟨_, _, _, _, rfl⟩ rfl rfl, .bool_eq rfl, trivial⟩, ⟨⟨fun h0 => absurd (show 0 < 0 from h0) (by decide), rfl, rfl, rfl, fun _ _ => ⟨.bool_eq rfl, .int_eq rfl, .str_eq rfl, trivial⟩⟩, ⟨fun h0 => absurd (show 1 < 0 from h0) (by decide), rfl, rfl, rfl, fun _ _ => ⟨.int_eq rfl, .int_eq rfl, .str_eq rfl, .int_eq rfl, .nils, trivial⟩⟩, ⟨fun h0 => absurd (show 2 < 0 from h0) (by decide), rfl, rfl, rfl, fun _ _ => ⟨.int_eq rfl, .int_eq rfl, .str_eq rfl, .int_eq rfl, .own_eq rfl ⟨_, _, _, _, rfl⟩ ⟨_, _, _, _, rfl⟩ rfl rfl, trivial⟩⟩, ⟨fun h0 => absurd (show 3 < 0 from h0) (by decide), rfl, rfl, rfl, fz_row TEntry.cells_pure⟩, trivial⟩⟩, Option.some.inj h, rfl, rfl⟩
      · rintro _ _ ⟨rfl, rfl, rfl⟩
        replace h := hk19
        refine splitB.mk (fun hb20 => ?_) (fun hb20 => ?_)
        · have hb23 := not_F hb20
          replace h := F_var hb23 h
          refine ⟨rfl, ?_⟩
          refine ⟨rfl, _, rfl, ?_⟩
          refine ⟨rfl, ?_⟩
          refine ⟨rfl, _, rfl, ?_⟩
          obtain ⟨v21, hv22, h⟩ := bind_some h
          refine ⟨_, ACall.pure0 (ok91 hv22) _ rfl (fun _ => rfl), ?_⟩
          rintro _ _ ⟨rfl, rfl⟩
          refine ⟨rfl, ?_⟩
          refine ⟨rfl, _, fun _ => [.int .i64 a0.fKind, .int .i64 a0.fNum, .str a0.fStr, .int .i64 v21, .own 3 0 0 l15.length], rfl, one_set rfl, ?_⟩
          refine .direct ?_
          refine ⟨rfl, _, rfl, ?_⟩
          refine ⟨rfl, _, fun _ => [.int .i64 a0.fKind, .int .i64 a0.fNum, .str a0.fStr, .int .i64 v21, .own 3 0 0 l15.length], rfl, one_set rfl, ?_⟩
          obtain rfl := Option.some.inj h
          refine ⟨rfl, _, rfl, ?_⟩
          exact ⟨[], .agg [.int .i64 ((TValue.mk a0.fKind a0.fNum a0.fStr v21 l15).fKind), .int .i64 ((TValue.mk a0.fKind a0.fNum a0.fStr v21 l15).fNum), .str ((TValue.mk a0.fKind a0.fNum a0.fStr v21 l15).fStr), .int .i64 ((TValue.mk a0.fKind a0.fNum a0.fStr v21 l15).fNext), sl 8 TEntry.cells ((TValue.mk a0.fKind a0.fNum a0.fStr v21 l15).fItems)], [], by decide, (show 0 ≤ 0 by decide), .agg_l ⟨.int_eq rfl, .int_eq rfl, .str_eq rfl, .int_eq rfl, (fz_frz TEntry.cells_pure (by decide) rfl shows_all), trivial⟩, trivial, rfl, rfl⟩
        · have hb23 := not_T hb20
          replace h := T_var hb23 h
          refine .direct ?_
          refine ⟨rfl, _, rfl, ?_⟩
          refine ⟨rfl, _, fun _ => [.int .i64 a0.fKind, .int .i64 a0.fNum, .str a0.fStr, .int .i64 a0.fNext, .own 3 0 0 l15.length], rfl, one_set rfl, ?_⟩
          obtain rfl := Option.some.inj h
          refine ⟨rfl, _, rfl, ?_⟩
          exact ⟨[], .agg [.int .i64 ((TValue.mk a0.fKind a0.fNum a0.fStr a0.fNext l15).fKind), .int .i64 ((TValue.mk a0.fKind a0.fNum a0.fStr a0.fNext l15).fNum), .str ((TValue.mk a0.fKind a0.fNum a0.fStr a0.fNext l15).fStr), .int .i64 ((TValue.mk a0.fKind a0.fNum a0.fStr a0.fNext l15).fNext), sl 8 TEntry.cells ((TValue.mk a0.fKind a0.fNum a0.fStr a0.fNext l15).fItems)], [], by decide, (show 0 ≤ 0 by decide), .agg_l ⟨.int_eq rfl, .int_eq rfl, .str_eq rfl, .int_eq rfl, (fz_frz TEntry.cells_pure (by decide) rfl shows_all), trivial⟩, trivial, rfl, rfl⟩
end Go.Am
