/- Models of Go functions, and their walks. (Printed by tools/mg.py.) -/
import Derived.Test.YtagfpmbccfghnaaDoorTy
set_option linter.unusedVariables false
set_option linter.unusedSimpArgs false
namespace Go.Am
open Go Go.RowKit Go.Proofs

def m53 (a0 : Int) (a1 : Int) (a2 : Int) : Option (Bool) :=
  (if a0 ≥ a1 then
    some (decide (a0 ≤ a2))
  else
    some false)
theorem ok53 {a0 : Int} {a1 : Int} {a2 : Int} {r : Bool} (h : m53 a0 a1 a2 = some r) : ACall Tryd.prog 53 [.int .i64 a0, .int .i64 a1, .int .i64 a2] [] (fun res h => res = .bool r ∧ h = []) := by
  refine ACall.of_vc tabT_ok mixed Tryd.func53 rfl (by kernel_rfl) _ _ _ rfl (by kernel_rfl) ?_
  unfold m53 at h
  refine .direct ?_
  refine .direct ?_
  refine splitB.mk (fun hb1 => ?_) (fun hb1 => ?_)
  · replace h := T_dec hb1 h
    refine splitB_t ?_
    refine splitB_t ?_
    refine splitB_t ?_
    obtain rfl := Option.some.inj h
    exact ⟨[], .bool (decide (a0 ≤ a2)), [], by decide, (show 0 ≤ 0 by decide), .bool_eq rfl, trivial, rfl, rfl⟩
  · replace h := F_dec hb1 h
    refine splitB_f ?_
    refine splitB_f ?_
    refine splitB_f ?_
    obtain rfl := Option.some.inj h
    exact ⟨[], .bool false, [], by decide, (show 0 ≤ 0 by decide), .bool_eq rfl, trivial, rfl, rfl⟩
def m91 (a0 : Int) (a1 : Int) : Option (Int) :=
  (if a1 > a0 then
    some a1
  else
    some a0)
theorem ok91 {a0 : Int} {a1 : Int} {r : Int} (h : m91 a0 a1 = some r) : ACall Tryd.prog 91 [.int .i64 a0, .int .i64 a1] [] (fun res h => res = .int .i64 r ∧ h = []) := by
  refine ACall.of_vc tabT_ok mixed Tryd.func91 rfl (by kernel_rfl) _ _ _ rfl (by kernel_rfl) ?_
  unfold m91 at h
  refine .direct ?_
  refine .direct ?_
  refine .direct ?_
  refine splitB.mk (fun hb1 => ?_) (fun hb1 => ?_)
  · replace h := T_dec hb1 h
    refine .direct ?_
    obtain rfl := Option.some.inj h
    exact ⟨[], .int .i64 a1, [], by decide, (show 0 ≤ 0 by decide), .int_eq rfl, trivial, rfl, rfl⟩
  · replace h := F_dec hb1 h
    refine .direct ?_
    obtain rfl := Option.some.inj h
    exact ⟨[], .int .i64 a0, [], by decide, (show 0 ≤ 0 by decide), .int_eq rfl, trivial, rfl, rfl⟩
def m92 (a0 : Int) (a1 : Int) (a2 : Int) : Option (Bool) :=
  (if a1 ≤ a0 then
    some (decide (a0 ≤ a2))
  else
    some false)
theorem ok92 {a0 : Int} {a1 : Int} {a2 : Int} {r : Bool} (h : m92 a0 a1 a2 = some r) : ACall Tryd.prog 92 [.int .i64 a0, .int .i64 a1, .int .i64 a2] [] (fun res h => res = .bool r ∧ h = []) := by
  refine ACall.of_vc tabT_ok mixed Tryd.func92 rfl (by kernel_rfl) _ _ _ rfl (by kernel_rfl) ?_
  unfold m92 at h
  refine .direct ?_
  refine .direct ?_
  refine splitB.mk (fun hb1 => ?_) (fun hb1 => ?_)
  · replace h := T_dec hb1 h
    refine splitB_t ?_
    refine splitB_t ?_
    refine splitB_t ?_
    obtain rfl := Option.some.inj h
    exact ⟨[], .bool (decide (a0 ≤ a2)), [], by decide, (show 0 ≤ 0 by decide), .bool_eq rfl, trivial, rfl, rfl⟩
  · replace h := F_dec hb1 h
    refine splitB_f ?_
    refine splitB_f ?_
    refine splitB_f ?_
    obtain rfl := Option.some.inj h
    exact ⟨[], .bool false, [], by decide, (show 0 ≤ 0 by decide), .bool_eq rfl, trivial, rfl, rfl⟩
def m93 (a0 : Int) (a1 : Int) : Option (Int) :=
  (if a1 > a0 then
    some a1
  else
    some a0)
theorem ok93 {a0 : Int} {a1 : Int} {r : Int} (h : m93 a0 a1 = some r) : ACall Tryd.prog 93 [.int .i64 a0, .int .i64 a1] [] (fun res h => res = .int .i64 r ∧ h = []) := by
  refine ACall.of_vc tabT_ok mixed Tryd.func93 rfl (by kernel_rfl) _ _ _ rfl (by kernel_rfl) ?_
  unfold m93 at h
  refine .direct ?_
  refine .direct ?_
  refine .direct ?_
  refine splitB.mk (fun hb1 => ?_) (fun hb1 => ?_)
  · replace h := T_dec hb1 h
    refine .direct ?_
    obtain rfl := Option.some.inj h
    exact ⟨[], .int .i64 a1, [], by decide, (show 0 ≤ 0 by decide), .int_eq rfl, trivial, rfl, rfl⟩
  · replace h := F_dec hb1 h
    refine .direct ?_
    obtain rfl := Option.some.inj h
    exact ⟨[], .int .i64 a0, [], by decide, (show 0 ≤ 0 by decide), .int_eq rfl, trivial, rfl, rfl⟩
def m76 (a0 : Int) (a1 : Int) : Option (Int) :=
  (if a0 < a1 then
    some (-1)
  else
    (if a0 > a1 then
      some 1
    else
      some 0))
theorem ok76 {a0 : Int} {a1 : Int} {r : Int} (h : m76 a0 a1 = some r) : ACall Tryd.prog 76 [.int .i64 a0, .int .i64 a1] [] (fun res h => res = .int .i64 r ∧ h = []) := by
  refine ACall.of_vc tabT_ok mixed Tryd.func76 rfl (by kernel_rfl) _ _ _ rfl (by kernel_rfl) ?_
  unfold m76 at h
  refine .direct ?_
  refine .direct ?_
  refine .direct ?_
  refine splitB.mk (fun hb1 => ?_) (fun hb1 => ?_)
  · replace h := T_dec hb1 h
    refine .direct ?_
    obtain rfl := Option.some.inj h
    exact ⟨[], .int .i64 (-1), [], by decide, (show 0 ≤ 0 by decide), .int_eq rfl, trivial, rfl, rfl⟩
  · replace h := F_dec hb1 h
    refine .direct ?_
    refine splitB.mk (fun hb2 => ?_) (fun hb2 => ?_)
    · replace h := T_dec hb2 h
      refine .direct ?_
      obtain rfl := Option.some.inj h
      exact ⟨[], .int .i64 1, [], by decide, (show 0 ≤ 0 by decide), .int_eq rfl, trivial, rfl, rfl⟩
    · replace h := F_dec hb2 h
      refine .direct ?_
      obtain rfl := Option.some.inj h
      exact ⟨[], .int .i64 0, [], by decide, (show 0 ≤ 0 by decide), .int_eq rfl, trivial, rfl, rfl⟩
def m77 (a0 : Bool) : Option (Int) :=
  (if a0 = true then
    some 1
  else
    some 0)
theorem ok77 {a0 : Bool} {r : Int} (h : m77 a0 = some r) : ACall Tryd.prog 77 [.bool a0] [] (fun res h => res = .int .i64 r ∧ h = []) := by
  refine ACall.of_vc tabT_ok mixed Tryd.func77 rfl (by kernel_rfl) _ _ _ rfl (by kernel_rfl) ?_
  unfold m77 at h
  refine .direct ?_
  refine .direct ?_
  refine .direct ?_
  refine splitB.mk (fun hb1 => ?_) (fun hb1 => ?_)
  · replace h := T_var hb1 h
    refine .direct ?_
    obtain rfl := Option.some.inj h
    exact ⟨[], .int .i64 1, [], by decide, (show 0 ≤ 0 by decide), .int_eq rfl, trivial, rfl, rfl⟩
  · replace h := F_var hb1 h
    refine .direct ?_
    obtain rfl := Option.some.inj h
    exact ⟨[], .int .i64 0, [], by decide, (show 0 ≤ 0 by decide), .int_eq rfl, trivial, rfl, rfl⟩
def m57 : Option (TValue) :=
  some (TValue.mk 0 0 [] 0 [])
theorem ok57 {r : TValue} (h : m57  = some r) : ACall Tryd.prog 57 [] [] (fun res h => res = .agg [.int .i64 r.fKind, .int .i64 r.fNum, .str r.fStr, .int .i64 r.fNext, sl 8 TEntry.cells r.fItems] ∧ h = []) := by
  refine ACall.of_vc tabT_ok mixed Tryd.func57 rfl (by kernel_rfl) _ _ _ rfl (by kernel_rfl) ?_
  unfold m57 at h
  refine .direct ?_
  refine .direct ?_
  refine ⟨rfl, _, fun _ => [.int .i64 0, .int .i64 0, .str [], .int .i64 0, .nils], rfl, one_set rfl, ?_⟩
  obtain rfl := Option.some.inj h
  refine ⟨rfl, _, rfl, ?_⟩
  exact ⟨[], .agg [.int .i64 ((TValue.mk 0 0 [] 0 []).fKind), .int .i64 ((TValue.mk 0 0 [] 0 []).fNum), .str ((TValue.mk 0 0 [] 0 []).fStr), .int .i64 ((TValue.mk 0 0 [] 0 []).fNext), sl 8 TEntry.cells ((TValue.mk 0 0 [] 0 []).fItems)], [], by decide, (show 0 ≤ 0 by decide), .agg_l ⟨.int_eq rfl, .int_eq rfl, .str_eq rfl, .int_eq rfl, fz_nils, trivial⟩, trivial, rfl, rfl⟩
theorem ok57x : ACall Tryd.prog 57 [] [] (fun res h => res = .agg [.int .i64 0, .int .i64 0, .str [], .int .i64 0, .nils] ∧ h = []) := by
  refine ACall.of_vc tabT_ok mixed Tryd.func57 rfl (by kernel_rfl) _ _ _ rfl (by kernel_rfl) ?_
  refine .direct ?_
  refine .direct ?_
  refine ⟨rfl, _, fun _ => [.int .i64 0, .int .i64 0, .str [], .int .i64 0, .nils], rfl, one_set rfl, ?_⟩
  refine ⟨rfl, _, rfl, ?_⟩
  exact ⟨[], .agg [.int .i64 0, .int .i64 0, .str [], .int .i64 0, .nils], [], by decide, (show 0 ≤ 0 by decide), .agg_l ⟨.int_eq rfl, .int_eq rfl, .str_eq rfl, .int_eq rfl, .nils, trivial⟩, trivial, rfl, rfl⟩
def m74 (a0 : Int) : Option (TValue) :=
  some (TValue.mk 2 a0 [] 0 [])
theorem ok74 {a0 : Int} {r : TValue} (h : m74 a0 = some r) : ACall Tryd.prog 74 [.int .i64 a0] [] (fun res h => res = .agg [.int .i64 r.fKind, .int .i64 r.fNum, .str r.fStr, .int .i64 r.fNext, sl 8 TEntry.cells r.fItems] ∧ h = []) := by
  refine ACall.of_vc tabT_ok mixed Tryd.func74 rfl (by kernel_rfl) _ _ _ rfl (by kernel_rfl) ?_
  unfold m74 at h
  refine .direct ?_
  refine .direct ?_
  refine ⟨rfl, _, fun _ => [.int .i64 2, .int .i64 a0, .str [], .int .i64 0, .nils], rfl, one_set rfl, ?_⟩
  obtain rfl := Option.some.inj h
  refine ⟨rfl, _, rfl, ?_⟩
  exact ⟨[], .agg [.int .i64 ((TValue.mk 2 a0 [] 0 []).fKind), .int .i64 ((TValue.mk 2 a0 [] 0 []).fNum), .str ((TValue.mk 2 a0 [] 0 []).fStr), .int .i64 ((TValue.mk 2 a0 [] 0 []).fNext), sl 8 TEntry.cells ((TValue.mk 2 a0 [] 0 []).fItems)], [], by decide, (show 0 ≤ 0 by decide), .agg_l ⟨.int_eq rfl, .int_eq rfl, .str_eq rfl, .int_eq rfl, fz_nils, trivial⟩, trivial, rfl, rfl⟩
theorem ok74x (a0 : Int) : ACall Tryd.prog 74 [.int .i64 a0] [] (fun res h => res = .agg [.int .i64 2, .int .i64 a0, .str [], .int .i64 0, .nils] ∧ h = []) := by
  refine ACall.of_vc tabT_ok mixed Tryd.func74 rfl (by kernel_rfl) _ _ _ rfl (by kernel_rfl) ?_
  refine .direct ?_
  refine .direct ?_
  refine ⟨rfl, _, fun _ => [.int .i64 2, .int .i64 a0, .str [], .int .i64 0, .nils], rfl, one_set rfl, ?_⟩
  refine ⟨rfl, _, rfl, ?_⟩
  exact ⟨[], .agg [.int .i64 2, .int .i64 a0, .str [], .int .i64 0, .nils], [], by decide, (show 0 ≤ 0 by decide), .agg_l ⟨.int_eq rfl, .int_eq rfl, .str_eq rfl, .int_eq rfl, .nils, trivial⟩, trivial, rfl, rfl⟩
def m86 : Option (TValue) :=
  some (TValue.mk 4 0 [] 0 [])
theorem ok86 {r : TValue} (h : m86  = some r) : ACall Tryd.prog 86 [] [] (fun res h => res = .agg [.int .i64 r.fKind, .int .i64 r.fNum, .str r.fStr, .int .i64 r.fNext, sl 8 TEntry.cells r.fItems] ∧ h = []) := by
  refine ACall.of_vc tabT_ok mixed Tryd.func86 rfl (by kernel_rfl) _ _ _ rfl (by kernel_rfl) ?_
  unfold m86 at h
  refine .direct ?_
  refine .direct ?_
  refine ⟨rfl, _, fun _ => [.int .i64 4, .int .i64 0, .str [], .int .i64 0, .nils], rfl, one_set rfl, ?_⟩
  obtain rfl := Option.some.inj h
  refine ⟨rfl, _, rfl, ?_⟩
  exact ⟨[], .agg [.int .i64 ((TValue.mk 4 0 [] 0 []).fKind), .int .i64 ((TValue.mk 4 0 [] 0 []).fNum), .str ((TValue.mk 4 0 [] 0 []).fStr), .int .i64 ((TValue.mk 4 0 [] 0 []).fNext), sl 8 TEntry.cells ((TValue.mk 4 0 [] 0 []).fItems)], [], by decide, (show 0 ≤ 0 by decide), .agg_l ⟨.int_eq rfl, .int_eq rfl, .str_eq rfl, .int_eq rfl, fz_nils, trivial⟩, trivial, rfl, rfl⟩
theorem ok86x : ACall Tryd.prog 86 [] [] (fun res h => res = .agg [.int .i64 4, .int .i64 0, .str [], .int .i64 0, .nils] ∧ h = []) := by
  refine ACall.of_vc tabT_ok mixed Tryd.func86 rfl (by kernel_rfl) _ _ _ rfl (by kernel_rfl) ?_
  refine .direct ?_
  refine .direct ?_
  refine ⟨rfl, _, fun _ => [.int .i64 4, .int .i64 0, .str [], .int .i64 0, .nils], rfl, one_set rfl, ?_⟩
  refine ⟨rfl, _, rfl, ?_⟩
  exact ⟨[], .agg [.int .i64 4, .int .i64 0, .str [], .int .i64 0, .nils], [], by decide, (show 0 ≤ 0 by decide), .agg_l ⟨.int_eq rfl, .int_eq rfl, .str_eq rfl, .int_eq rfl, .nils, trivial⟩, trivial, rfl, rfl⟩
def m105 (a0 : Bool) : Option (TValue) :=
  (if a0 = true then
    some (TValue.mk 1 1 [] 0 [])
  else
    some (TValue.mk 1 0 [] 0 []))
theorem ok105 {a0 : Bool} {r : TValue} (h : m105 a0 = some r) : ACall Tryd.prog 105 [.bool a0] [] (fun res h => res = .agg [.int .i64 r.fKind, .int .i64 r.fNum, .str r.fStr, .int .i64 r.fNext, sl 8 TEntry.cells r.fItems] ∧ h = []) := by
  refine ACall.of_vc tabT_ok mixed Tryd.func105 rfl (by kernel_rfl) _ _ _ rfl (by kernel_rfl) ?_
  unfold m105 at h
  refine .direct ?_
  refine .direct ?_
  refine .direct ?_
  refine splitB.mk (fun hb1 => ?_) (fun hb1 => ?_)
  · replace h := T_var hb1 h
    refine .direct ?_
    refine ⟨rfl, _, fun _ => [.int .i64 1, .int .i64 1, .str [], .int .i64 0, .nils], rfl, one_set rfl, ?_⟩
    obtain rfl := Option.some.inj h
    refine ⟨rfl, _, rfl, ?_⟩
    exact ⟨[], .agg [.int .i64 ((TValue.mk 1 1 [] 0 []).fKind), .int .i64 ((TValue.mk 1 1 [] 0 []).fNum), .str ((TValue.mk 1 1 [] 0 []).fStr), .int .i64 ((TValue.mk 1 1 [] 0 []).fNext), sl 8 TEntry.cells ((TValue.mk 1 1 [] 0 []).fItems)], [], by decide, (show 0 ≤ 0 by decide), .agg_l ⟨.int_eq rfl, .int_eq rfl, .str_eq rfl, .int_eq rfl, fz_nils, trivial⟩, trivial, rfl, rfl⟩
  · replace h := F_var hb1 h
    refine .direct ?_
    refine ⟨rfl, _, fun _ => [.int .i64 1, .int .i64 0, .str [], .int .i64 0, .nils], rfl, one_set rfl, ?_⟩
    obtain rfl := Option.some.inj h
    refine ⟨rfl, _, rfl, ?_⟩
    exact ⟨[], .agg [.int .i64 ((TValue.mk 1 0 [] 0 []).fKind), .int .i64 ((TValue.mk 1 0 [] 0 []).fNum), .str ((TValue.mk 1 0 [] 0 []).fStr), .int .i64 ((TValue.mk 1 0 [] 0 []).fNext), sl 8 TEntry.cells ((TValue.mk 1 0 [] 0 []).fItems)], [], by decide, (show 0 ≤ 0 by decide), .agg_l ⟨.int_eq rfl, .int_eq rfl, .str_eq rfl, .int_eq rfl, fz_nils, trivial⟩, trivial, rfl, rfl⟩
def m106 (a0 : Str) : Option (TValue) :=
  some (TValue.mk 3 0 a0 0 [])
theorem ok106 {a0 : Str} {r : TValue} (h : m106 a0 = some r) : ACall Tryd.prog 106 [.str a0] [] (fun res h => res = .agg [.int .i64 r.fKind, .int .i64 r.fNum, .str r.fStr, .int .i64 r.fNext, sl 8 TEntry.cells r.fItems] ∧ h = []) := by
  refine ACall.of_vc tabT_ok mixed Tryd.func106 rfl (by kernel_rfl) _ _ _ rfl (by kernel_rfl) ?_
  unfold m106 at h
  refine .direct ?_
  refine .direct ?_
  refine ⟨rfl, _, fun _ => [.int .i64 3, .int .i64 0, .str a0, .int .i64 0, .nils], rfl, one_set rfl, ?_⟩
  obtain rfl := Option.some.inj h
  refine ⟨rfl, _, rfl, ?_⟩
  exact ⟨[], .agg [.int .i64 ((TValue.mk 3 0 a0 0 []).fKind), .int .i64 ((TValue.mk 3 0 a0 0 []).fNum), .str ((TValue.mk 3 0 a0 0 []).fStr), .int .i64 ((TValue.mk 3 0 a0 0 []).fNext), sl 8 TEntry.cells ((TValue.mk 3 0 a0 0 []).fItems)], [], by decide, (show 0 ≤ 0 by decide), .agg_l ⟨.int_eq rfl, .int_eq rfl, .str_eq rfl, .int_eq rfl, fz_nils, trivial⟩, trivial, rfl, rfl⟩
theorem ok106x (a0 : Str) : ACall Tryd.prog 106 [.str a0] [] (fun res h => res = .agg [.int .i64 3, .int .i64 0, .str a0, .int .i64 0, .nils] ∧ h = []) := by
  refine ACall.of_vc tabT_ok mixed Tryd.func106 rfl (by kernel_rfl) _ _ _ rfl (by kernel_rfl) ?_
  refine .direct ?_
  refine .direct ?_
  refine ⟨rfl, _, fun _ => [.int .i64 3, .int .i64 0, .str a0, .int .i64 0, .nils], rfl, one_set rfl, ?_⟩
  refine ⟨rfl, _, rfl, ?_⟩
  exact ⟨[], .agg [.int .i64 3, .int .i64 0, .str a0, .int .i64 0, .nils], [], by decide, (show 0 ≤ 0 by decide), .agg_l ⟨.int_eq rfl, .int_eq rfl, .str_eq rfl, .int_eq rfl, .nils, trivial⟩, trivial, rfl, rfl⟩
def m80 (a0 : TValue) : Option (Bool) :=
  (if a0.fKind = 2 then
    some true
  else
    some (a0.fKind == 3))
theorem ok80 {a0 : TValue} {r : Bool} (h : m80 a0 = some r) : ACall Tryd.prog 80 [.agg [.int .i64 a0.fKind, .int .i64 a0.fNum, .str a0.fStr, .int .i64 a0.fNext, sl 8 TEntry.cells a0.fItems]] [] (fun res h => res = .bool r ∧ h = []) := by
  refine ACall.of_vc tabT_ok mixed Tryd.func80 rfl (by kernel_rfl) _ _ _ rfl (by kernel_rfl) ?_
  unfold m80 at h
  refine .direct ?_
  refine .direct ?_
  refine ⟨rfl, ?_⟩
  refine ⟨rfl, _, rfl, ?_⟩
  refine splitB.mk (fun hb1 => ?_) (fun hb1 => ?_)
  · replace h := T_beq hb1 h
    refine splitB_t ?_
    refine splitB_t ?_
    refine splitB_t ?_
    obtain rfl := Option.some.inj h
    exact ⟨[], .bool true, [], by decide, (show 0 ≤ 0 by decide), .bool_eq rfl, trivial, rfl, rfl⟩
  · replace h := F_beq hb1 h
    refine ⟨rfl, ?_⟩
    refine splitB_f ?_
    refine ⟨rfl, _, rfl, ?_⟩
    refine splitB_f ?_
    refine splitB_f ?_
    obtain rfl := Option.some.inj h
    exact ⟨[], .bool (a0.fKind == 3), [], by decide, (show 0 ≤ 0 by decide), .bool_eq rfl, trivial, rfl, rfl⟩
def m78 (a0 : TValue) : Option (Bool) :=
  (if a0.fKind = 0 then
    some false
  else
    (
      (if a0.fKind = 1 then
        some (a0.fKind == 1)
      else
        some (a0.fKind == 2))
     : Option (Bool)) >>= fun b2 =>
    (if b2 = true then
      some (a0.fNum != 0)
    else
      (if a0.fKind = 3 then
        (if a0.fStr = ([] : Str) then
          some false
        else
          some (!(a0.fStr == ([48] : Str))))
      else
        (if a0.fKind = 4 then
          some (decide ((a0.fItems.length : Int) > 0))
        else
          some true))))
theorem ok78 {a0 : TValue} {r : Bool} (h : m78 a0 = some r) : ACall Tryd.prog 78 [.agg [.int .i64 a0.fKind, .int .i64 a0.fNum, .str a0.fStr, .int .i64 a0.fNext, sl 8 TEntry.cells a0.fItems]] [] (fun res h => res = .bool r ∧ h = []) := by
  refine ACall.of_vc tabT_ok mixed Tryd.func78 rfl (by kernel_rfl) _ _ _ rfl (by kernel_rfl) ?_
  unfold m78 at h
  refine .direct ?_
  refine .direct ?_
  refine .direct ?_
  refine ⟨rfl, ?_⟩
  refine ⟨rfl, _, rfl, ?_⟩
  refine .direct ?_
  refine splitB.mk (fun hb1 => ?_) (fun hb1 => ?_)
  · replace h := T_beq hb1 h
    refine .direct ?_
    obtain rfl := Option.some.inj h
    exact ⟨[], .bool false, [], by decide, (show 0 ≤ 0 by decide), .bool_eq rfl, trivial, rfl, rfl⟩
  · replace h := F_beq hb1 h
    obtain ⟨o3, ho4, hk5⟩ := bind_some h
    replace h := ho4
    refine .cut (fun σ η => ∃ b2, b2 = o3 ∧ σ = [(1, .optr 0 0 0 0), (4, .int .i64 a0.fKind), (7, .bool b2)] ∧ η = [.row 0 5 1 40 (fun _ => [.int .i64 a0.fKind, .int .i64 a0.fNum, .str a0.fStr, .int .i64 a0.fNext, sl 8 TEntry.cells a0.fItems])]) ?_ ?_
    · refine .direct ?_
      refine splitB.mk (fun hb6 => ?_) (fun hb6 => ?_)
      · replace h := T_beq hb6 h
        exact ⟨[(1, .optr 0 0 0 0), (4, .int .i64 a0.fKind), (7, .bool (a0.fKind == 1))], [.row 0 5 1 40 (fun _ => [.int .i64 a0.fKind, .int .i64 a0.fNum, .str a0.fStr, .int .i64 a0.fNext, sl 8 TEntry.cells a0.fItems])], ⟨[0], by decide, (show 0 ≤ 1 by decide), ⟨.optr_eq rfl ⟨_, _, _, _, rfl⟩ ⟨_, _, _, _, rfl⟩ rfl rfl, .int_eq rfl, .bool_eq rfl, trivial⟩, ⟨⟨fun h0 => absurd (show 0 < 0 from h0) (by decide), rfl, rfl, rfl, fun _ _ => ⟨.int_eq rfl, .int_eq rfl, .str_eq rfl, .int_eq rfl, .slc_eq rfl (fun _ _ => rfl), trivial⟩⟩, trivial⟩⟩, (a0.fKind == 1), Option.some.inj h, rfl, rfl⟩
      · replace h := F_beq hb6 h
        exact ⟨[(1, .optr 0 0 0 0), (4, .int .i64 a0.fKind), (7, .bool (a0.fKind == 2))], [.row 0 5 1 40 (fun _ => [.int .i64 a0.fKind, .int .i64 a0.fNum, .str a0.fStr, .int .i64 a0.fNext, sl 8 TEntry.cells a0.fItems])], ⟨[0], by decide, (show 0 ≤ 1 by decide), ⟨.optr_eq rfl ⟨_, _, _, _, rfl⟩ ⟨_, _, _, _, rfl⟩ rfl rfl, .int_eq rfl, .bool_eq rfl, trivial⟩, ⟨⟨fun h0 => absurd (show 0 < 0 from h0) (by decide), rfl, rfl, rfl, fun _ _ => ⟨.int_eq rfl, .int_eq rfl, .str_eq rfl, .int_eq rfl, .slc_eq rfl (fun _ _ => rfl), trivial⟩⟩, trivial⟩⟩, (a0.fKind == 2), Option.some.inj h, rfl, rfl⟩
    · rintro _ _ ⟨b2, rfl, rfl, rfl⟩
      replace h := hk5
      refine splitB.mk (fun hb7 => ?_) (fun hb7 => ?_)
      · replace h := T_var hb7 h
        refine .direct ?_
        refine ⟨rfl, ?_⟩
        refine ⟨rfl, _, rfl, ?_⟩
        obtain rfl := Option.some.inj h
        exact ⟨[], .bool (a0.fNum != 0), [], by decide, (show 0 ≤ 0 by decide), .bool_eq rfl, trivial, rfl, rfl⟩
      · replace h := F_var hb7 h
        refine .direct ?_
        refine splitB.mk (fun hb8 => ?_) (fun hb8 => ?_)
        · replace h := T_beq hb8 h
          refine .direct ?_
          refine ⟨rfl, ?_⟩
          refine ⟨rfl, _, rfl, ?_⟩
          refine splitB.mk (fun hb9 => ?_) (fun hb9 => ?_)
          · have hb10 := not_F hb9
            replace h := F_beq hb10 h
            refine ⟨rfl, ?_⟩
            refine splitB_t ?_
            refine ⟨rfl, _, rfl, ?_⟩
            refine splitB_t ?_
            refine splitB_t ?_
            obtain rfl := Option.some.inj h
            exact ⟨[], .bool (!(a0.fStr == ([48] : Str))), [], by decide, (show 0 ≤ 0 by decide), .bool_eq rfl, trivial, rfl, rfl⟩
          · have hb10 := not_T hb9
            replace h := T_beq hb10 h
            refine splitB_f ?_
            refine splitB_f ?_
            refine splitB_f ?_
            obtain rfl := Option.some.inj h
            exact ⟨[], .bool false, [], by decide, (show 0 ≤ 0 by decide), .bool_eq rfl, trivial, rfl, rfl⟩
        · replace h := F_beq hb8 h
          refine .direct ?_
          refine splitB.mk (fun hb11 => ?_) (fun hb11 => ?_)
          · replace h := T_beq hb11 h
            refine .direct ?_
            refine ⟨rfl, ?_⟩
            refine ⟨rfl, _, rfl, ?_⟩
            obtain rfl := Option.some.inj h
            exact ⟨[], .bool (decide ((a0.fItems.length : Int) > 0)), [], by decide, (show 0 ≤ 0 by decide), .bool_eq rfl, trivial, rfl, rfl⟩
          · replace h := F_beq hb11 h
            refine .direct ?_
            obtain rfl := Option.some.inj h
            exact ⟨[], .bool true, [], by decide, (show 0 ≤ 0 by decide), .bool_eq rfl, trivial, rfl, rfl⟩
def m115 (a0 : Int) (a1 : Int) : Option (Int) :=
  (if a1 < a0 then
    some a1
  else
    some a0)
theorem ok115 {a0 : Int} {a1 : Int} {r : Int} (h : m115 a0 a1 = some r) : ACall Tryd.prog 115 [.int .i64 a0, .int .i64 a1] [] (fun res h => res = .int .i64 r ∧ h = []) := by
  refine ACall.of_vc tabT_ok mixed Tryd.func115 rfl (by kernel_rfl) _ _ _ rfl (by kernel_rfl) ?_
  unfold m115 at h
  refine .direct ?_
  refine .direct ?_
  refine .direct ?_
  refine splitB.mk (fun hb1 => ?_) (fun hb1 => ?_)
  · replace h := T_dec hb1 h
    refine .direct ?_
    obtain rfl := Option.some.inj h
    exact ⟨[], .int .i64 a1, [], by decide, (show 0 ≤ 0 by decide), .int_eq rfl, trivial, rfl, rfl⟩
  · replace h := F_dec hb1 h
    refine .direct ?_
    obtain rfl := Option.some.inj h
    exact ⟨[], .int .i64 a0, [], by decide, (show 0 ≤ 0 by decide), .int_eq rfl, trivial, rfl, rfl⟩
def m30 (a0 : Str) (a1 : Int) (a2 : Str) : Option (Bool) :=
  (if (a2.length : Int) ≤ (W64 ((a0.length : Int) - a1)) then
    ssub a0 a1 (W64 (a1 + (a2.length : Int))) >>= fun s2 =>
    some (s2 == a2)
  else
    some false)
theorem ok30 {a0 : Str} {a1 : Int} {a2 : Str} {r : Bool} (h : m30 a0 a1 a2 = some r) : ACall Tryd.prog 30 [.str a0, .int .i64 a1, .str a2] [] (fun res h => res = .bool r ∧ h = []) := by
  refine ACall.of_vc tabT_ok mixed Tryd.func30 rfl (by kernel_rfl) _ _ _ rfl (by kernel_rfl) ?_
  unfold m30 at h
  refine .direct ?_
  refine .direct ?_
  refine splitB.mk (fun hb1 => ?_) (fun hb1 => ?_)
  · replace h := T_dec hb1 h
    refine splitB_t ?_
    refine splitB_t ?_
    refine splitB_t ?_
    refine splitB_t ?_
    refine splitB_t ?_
    refine splitB_t ?_
    obtain ⟨s2, hx3, h⟩ := bind_some h
    refine ⟨ssub_bd hx3, s2, ssub_at hx3, ?_⟩
    refine splitB_t ?_
    refine splitB_t ?_
    refine splitB_t ?_
    obtain rfl := Option.some.inj h
    exact ⟨[], .bool (s2 == a2), [], by decide, (show 0 ≤ 0 by decide), .bool_eq rfl, trivial, rfl, rfl⟩
  · replace h := F_dec hb1 h
    refine splitB_f ?_
    refine splitB_f ?_
    refine splitB_f ?_
    refine splitB_f ?_
    refine splitB_f ?_
    refine splitB_f ?_
    refine splitB_f ?_
    refine splitB_f ?_
    refine splitB_f ?_
    obtain rfl := Option.some.inj h
    exact ⟨[], .bool false, [], by decide, (show 0 ≤ 0 by decide), .bool_eq rfl, trivial, rfl, rfl⟩
def m90_L2 (a0 : TValue) (a1 : TKey) (y4 : Int) : Option ((Unit) ⊕ Int) :=
  (if a0.fKind = 4 then
    (if y4 < (a0.fItems.length : Int) then
      idx a0.fItems y4 >>= fun x9 =>
      (if x9.fKey = a1 then
        some (.inr y4)
      else
        m90_L2 a0 a1 (W64 (y4 + 1)))
    else
      some (.inl ()))
  else
    some (.inl ()))
partial_fixpoint
def m90 (a0 : TValue) (a1 : TKey) : Option (Int) :=
  ((
    m90_L2 a0 a1 0
   : Option ((Unit) ⊕ Int)) >>= fun o1 => match o1 with
    | .inr r => some r
    | .inl _ =>
      some (-1)
  )
theorem ok90 {a0 : TValue} {a1 : TKey} {r : Int} (h : m90 a0 a1 = some r) : ACall Tryd.prog 90 [.agg [.int .i64 a0.fKind, .int .i64 a0.fNum, .str a0.fStr, .int .i64 a0.fNext, sl 8 TEntry.cells a0.fItems], .agg [.bool a1.fText, .int .i64 a1.fNum, .str a1.fStr]] [] (fun res h => res = .int .i64 r ∧ h = []) := by
  refine ACall.of_vc tabT_ok mixed Tryd.func90 rfl (by kernel_rfl) _ _ _ rfl (by kernel_rfl) ?_
  unfold m90 at h
  refine .direct ?_
  obtain ⟨o1, ho2, hk3⟩ := bind_some h
  replace h := ho2
  refine .cut (fun σ η => .inl () = o1 ∧ σ = [] ∧ η = []) ?_ ?_
  · refine .direct ?_
    refine LoopAt.enter [(2, .optr 0 0 0 0), (3, .optr 1 0 0 0), (5, .int .i64 0)] [.row 0 5 1 40 (fun _ => [.int .i64 a0.fKind, .int .i64 a0.fNum, .str a0.fStr, .int .i64 a0.fNext, sl 8 TEntry.cells a0.fItems]), .row 0 3 1 44 (fun _ => [.bool a1.fText, .int .i64 a1.fNum, .str a1.fStr])] ⟨[0, 1], by decide, (show 0 ≤ 2 by decide), ⟨.optr_eq rfl ⟨_, _, _, _, rfl⟩ ⟨_, _, _, _, rfl⟩ rfl rfl, .optr_eq rfl ⟨_, _, _, _, rfl⟩ ⟨_, _, _, _, rfl⟩ rfl rfl, .int_eq rfl, trivial⟩, ⟨⟨fun h0 => absurd (show 0 < 0 from h0) (by decide), rfl, rfl, rfl, fun _ _ => ⟨.int_eq rfl, .int_eq rfl, .str_eq rfl, .int_eq rfl, .slc_eq rfl (fun _ _ => rfl), trivial⟩⟩, ⟨fun h0 => absurd (show 1 < 0 from h0) (by decide), rfl, rfl, rfl, fun _ _ => ⟨.bool_eq rfl, .int_eq rfl, .str_eq rfl, trivial⟩⟩, trivial⟩⟩ ?_
    refine m90_L2.partial_correctness a0 a1 (motive := fun y4 o12 => o1 = o12 → LoopAt _ _ [(2, .optr 0 0 0 0), (3, .optr 1 0 0 0), (5, .int .i64 y4)] [.row 0 5 1 40 (fun _ => [.int .i64 a0.fKind, .int .i64 a0.fNum, .str a0.fStr, .int .i64 a0.fNext, sl 8 TEntry.cells a0.fItems]), .row 0 3 1 44 (fun _ => [.bool a1.fText, .int .i64 a1.fNum, .str a1.fStr])]) ?_ 0 o1 h rfl
    intro F6 ih5 y4 o12 h hr13
    subst hr13
    refine LoopAt.round ?_
    refine .direct ?_
    refine .direct ?_
    refine ⟨rfl, ?_⟩
    refine ⟨rfl, _, rfl, ?_⟩
    refine splitB.mk (fun hb7 => ?_) (fun hb7 => ?_)
    · replace h := T_beq hb7 h
      refine splitB_t ?_
      refine ⟨rfl, ?_⟩
      refine splitB_t ?_
      refine ⟨rfl, _, rfl, ?_⟩
      refine splitB_t ?_
      refine splitB_t ?_
      refine splitB_t ?_
      refine splitB.mk (fun hb8 => ?_) (fun hb8 => ?_)
      · replace h := T_dec hb8 h
        refine .direct ?_
        refine .direct ?_
        refine ⟨rfl, ?_⟩
        refine ⟨rfl, _, rfl, ?_⟩
        obtain ⟨x9, hx10, h⟩ := bind_some h
        refine ⟨idx_bd hx10, _, (idx_row hx10).trans (TEntry.cells_eq x9), ?_⟩
        refine ⟨rfl, _, rfl, ?_⟩
        refine ⟨_, TKey.eq_cells x9.fKey a1, ?_⟩
        refine splitB.mk (fun hb11 => ?_) (fun hb11 => ?_)
        · replace h := T_dec hb11 h
          refine .direct ?_
          obtain rfl := Option.some.inj h
          replace h := hk3
          obtain rfl := Option.some.inj h
          exact ⟨[], .int .i64 y4, [], by decide, (show 0 ≤ 0 by decide), .int_eq rfl, trivial, rfl, rfl⟩
        · replace h := F_dec hb11 h
          exact ⟨[(2, .optr 0 0 0 0), (3, .optr 1 0 0 0), (5, .int .i64 (W64 (y4 + 1)))], [.row 0 5 1 40 (fun _ => [.int .i64 a0.fKind, .int .i64 a0.fNum, .str a0.fStr, .int .i64 a0.fNext, sl 8 TEntry.cells a0.fItems]), .row 0 3 1 44 (fun _ => [.bool a1.fText, .int .i64 a1.fNum, .str a1.fStr])], ⟨[0, 1], by decide, (show 0 ≤ 2 by decide), ⟨.optr_eq rfl ⟨_, _, _, _, rfl⟩ ⟨_, _, _, _, rfl⟩ rfl rfl, .optr_eq rfl ⟨_, _, _, _, rfl⟩ ⟨_, _, _, _, rfl⟩ rfl rfl, .int_eq rfl, trivial⟩, ⟨⟨fun h0 => absurd (show 0 < 0 from h0) (by decide), rfl, rfl, rfl, fun _ _ => ⟨.int_eq rfl, .int_eq rfl, .str_eq rfl, .int_eq rfl, .slc_eq rfl (fun _ _ => rfl), trivial⟩⟩, ⟨fun h0 => absurd (show 1 < 0 from h0) (by decide), rfl, rfl, rfl, fun _ _ => ⟨.bool_eq rfl, .int_eq rfl, .str_eq rfl, trivial⟩⟩, trivial⟩⟩, ih5 _ _ h rfl⟩
      · replace h := F_dec hb8 h
        exact ⟨[], [], ⟨[], by decide, (show 0 ≤ 0 by decide), trivial, trivial⟩, Option.some.inj h, rfl, rfl⟩
    · replace h := F_beq hb7 h
      refine splitB_f ?_
      refine splitB_f ?_
      refine splitB_f ?_
      refine splitB_f ?_
      refine splitB_f ?_
      refine splitB_f ?_
      exact ⟨[], [], ⟨[], by decide, (show 0 ≤ 0 by decide), trivial, trivial⟩, Option.some.inj h, rfl, rfl⟩
  · rintro _ _ ⟨rfl, rfl, rfl⟩
    replace h := hk3
    refine .direct ?_
    obtain rfl := Option.some.inj h
    exact ⟨[], .int .i64 (-1), [], by decide, (show 0 ≤ 0 by decide), .int_eq rfl, trivial, rfl, rfl⟩
def m27_L2 (a0 : TValue) (a1 : TKey) (y5 : Int) : Option ((Unit) ⊕ Int) :=
  (if y5 < (a0.fItems.length : Int) then
    idx a0.fItems y5 >>= fun x9 =>
    (if x9.fKey = a1 then
      some (.inr y5)
    else
      m27_L2 a0 a1 (W64 (y5 + 1)))
  else
    some (.inl ()))
partial_fixpoint
def m27 (a0 : TValue) (a1 : TKey) : Option (Int) :=
  (if a0.fKind = 4 then
    ((
      m27_L2 a0 a1 0
     : Option ((Unit) ⊕ Int)) >>= fun o2 => match o2 with
      | .inr r => some r
      | .inl _ =>
        some (-1)
    )
  else
    some (-1))
theorem ok27 {a0 : TValue} {a1 : TKey} {r : Int} (h : m27 a0 a1 = some r) : ACall Tryd.prog 27 [.agg [.int .i64 a0.fKind, .int .i64 a0.fNum, .str a0.fStr, .int .i64 a0.fNext, sl 8 TEntry.cells a0.fItems], .agg [.bool a1.fText, .int .i64 a1.fNum, .str a1.fStr]] [] (fun res h => res = .int .i64 r ∧ h = []) := by
  refine ACall.of_vc tabT_ok mixed Tryd.func27 rfl (by kernel_rfl) _ _ _ rfl (by kernel_rfl) ?_
  unfold m27 at h
  refine .direct ?_
  refine .direct ?_
  refine .direct ?_
  refine ⟨rfl, ?_⟩
  refine ⟨rfl, _, rfl, ?_⟩
  refine splitB.mk (fun hb1 => ?_) (fun hb1 => ?_)
  · replace h := T_bne hb1 h
    refine .direct ?_
    obtain rfl := Option.some.inj h
    exact ⟨[], .int .i64 (-1), [], by decide, (show 0 ≤ 0 by decide), .int_eq rfl, trivial, rfl, rfl⟩
  · replace h := F_bne hb1 h
    obtain ⟨o2, ho3, hk4⟩ := bind_some h
    replace h := ho3
    refine .cut (fun σ η => .inl () = o2 ∧ σ = [] ∧ η = []) ?_ ?_
    · refine .direct ?_
      refine ⟨rfl, ?_⟩
      refine ⟨rfl, _, rfl, ?_⟩
      refine LoopAt.enter [(3, .optr 0 0 0 0), (11, sl 8 TEntry.cells a0.fItems), (12, .int .i64 (a0.fItems.length : Int)), (13, .int .i64 0)] [.row 0 3 1 44 (fun _ => [.bool a1.fText, .int .i64 a1.fNum, .str a1.fStr])] ⟨[1], by decide, (show 0 ≤ 1 by decide), ⟨.optr_eq rfl ⟨_, _, _, _, rfl⟩ ⟨_, _, _, _, rfl⟩ rfl rfl, .slc_eq rfl (fun _ _ => rfl), .int_eq rfl, .int_eq rfl, trivial⟩, ⟨⟨fun h0 => absurd (show 0 < 0 from h0) (by decide), rfl, rfl, rfl, fun _ _ => ⟨.bool_eq rfl, .int_eq rfl, .str_eq rfl, trivial⟩⟩, trivial⟩⟩ ?_
      refine m27_L2.partial_correctness a0 a1 (motive := fun y5 o12 => o2 = o12 → LoopAt _ _ [(3, .optr 0 0 0 0), (11, sl 8 TEntry.cells a0.fItems), (12, .int .i64 (a0.fItems.length : Int)), (13, .int .i64 y5)] [.row 0 3 1 44 (fun _ => [.bool a1.fText, .int .i64 a1.fNum, .str a1.fStr])]) ?_ 0 o2 h rfl
      intro F7 ih6 y5 o12 h hr13
      subst hr13
      refine LoopAt.round ?_
      refine .direct ?_
      refine .direct ?_
      refine splitB.mk (fun hb8 => ?_) (fun hb8 => ?_)
      · replace h := T_dec hb8 h
        refine .direct ?_
        refine .direct ?_
        obtain ⟨x9, hx10, h⟩ := bind_some h
        refine ⟨idx_bd hx10, _, (idx_row hx10).trans (TEntry.cells_eq x9), ?_⟩
        refine ⟨rfl, _, fun _ => [.bool x9.fKey.fText, .int .i64 x9.fKey.fNum, .str x9.fKey.fStr, .int .i64 x9.fVal.fKind, .int .i64 x9.fVal.fNum, .str x9.fVal.fStr, .int .i64 x9.fVal.fNext, sl 8 TEntry.cells x9.fVal.fItems], rfl, one_set rfl, ?_⟩
        refine .direct ?_
        refine ⟨rfl, ?_⟩
        refine ⟨rfl, _, rfl, ?_⟩
        refine ⟨rfl, _, rfl, ?_⟩
        refine ⟨_, TKey.eq_cells x9.fKey a1, ?_⟩
        refine splitB.mk (fun hb11 => ?_) (fun hb11 => ?_)
        · replace h := T_dec hb11 h
          refine .direct ?_
          obtain rfl := Option.some.inj h
          replace h := hk4
          obtain rfl := Option.some.inj h
          exact ⟨[], .int .i64 y5, [], by decide, (show 0 ≤ 0 by decide), .int_eq rfl, trivial, rfl, rfl⟩
        · replace h := F_dec hb11 h
          exact ⟨[(3, .optr 0 0 0 0), (11, sl 8 TEntry.cells a0.fItems), (12, .int .i64 (a0.fItems.length : Int)), (13, .int .i64 (W64 (y5 + 1)))], [.row 0 3 1 44 (fun _ => [.bool a1.fText, .int .i64 a1.fNum, .str a1.fStr])], ⟨[0], by decide, (show 0 ≤ 1 by decide), ⟨.optr_eq rfl ⟨_, _, _, _, rfl⟩ ⟨_, _, _, _, rfl⟩ rfl rfl, .slc_eq rfl (fun _ _ => rfl), .int_eq rfl, .int_eq rfl, trivial⟩, ⟨⟨fun h0 => absurd (show 0 < 0 from h0) (by decide), rfl, rfl, rfl, fun _ _ => ⟨.bool_eq rfl, .int_eq rfl, .str_eq rfl, trivial⟩⟩, trivial⟩⟩, ih6 _ _ h rfl⟩
      · replace h := F_dec hb8 h
        exact ⟨[], [], ⟨[], by decide, (show 0 ≤ 0 by decide), trivial, trivial⟩, Option.some.inj h, rfl, rfl⟩
    · rintro _ _ ⟨rfl, rfl, rfl⟩
      replace h := hk4
      refine .direct ?_
      obtain rfl := Option.some.inj h
      exact ⟨[], .int .i64 (-1), [], by decide, (show 0 ≤ 0 by decide), .int_eq rfl, trivial, rfl, rfl⟩
def m72 (a0 : TL1Cur) : Option (Int × TL1Cur) :=
  (if a0.fI < (a0.fB.length : Int) then
    idx a0.fB a0.fI >>= fun c2 =>
    some (bits .and .i64 (W64 ((bits .and .i64 (bits .xor .i64 ((W64 ((W64 (a0.fH * 6364136223846793005)) + 1442695040888963407)).fdiv (2 ^ min (33 : Int).toNat IntKind.i64.bits)) ((W64 ((W64 (a0.fH * 6364136223846793005)) + 1442695040888963407)).fdiv (2 ^ min (47 : Int).toNat IntKind.i64.bits))) 255) + (W64 ((c2.toNat : Int))))) 255, (TL1Cur.mk a0.fB (W64 (a0.fI + 1)) (W64 ((W64 (a0.fH * 6364136223846793005)) + 1442695040888963407))))
  else
    some (bits .and .i64 (bits .xor .i64 ((W64 ((W64 (a0.fH * 6364136223846793005)) + 1442695040888963407)).fdiv (2 ^ min (33 : Int).toNat IntKind.i64.bits)) ((W64 ((W64 (a0.fH * 6364136223846793005)) + 1442695040888963407)).fdiv (2 ^ min (47 : Int).toNat IntKind.i64.bits))) 255, (TL1Cur.mk a0.fB a0.fI (W64 ((W64 (a0.fH * 6364136223846793005)) + 1442695040888963407)))))
theorem ok72 {a0 : TL1Cur} {r : Int × TL1Cur} {g1000 : Nat} (h : m72 a0 = some r) : ACall Tryd.prog 72 [.optr 0 g1000 0 0] [.row g1000 3 1 100 (fun _ => [sl 1 cB a0.fB, .int .i64 a0.fI, .int .i64 a0.fH])] (fun res h => res = .int .i64 r.1 ∧ h = [.row g1000 3 1 100 (fun _ => [sl 1 cB r.2.fB, .int .i64 r.2.fI, .int .i64 r.2.fH])]) := by
  refine ACall.of_vc tabT_ok mixed Tryd.func72 rfl (by kernel_rfl) _ _ _ rfl (by kernel_rfl) ?_
  unfold m72 at h
  refine .direct ?_
  refine .direct ?_
  refine ⟨rfl, ?_⟩
  refine ⟨rfl, ?_⟩
  refine ⟨rfl, _, rfl, ?_⟩
  refine ⟨rfl, ?_⟩
  refine ⟨rfl, ?_⟩
  refine ⟨rfl, _, fun _ => [sl 1 cB a0.fB, .int .i64 a0.fI, .int .i64 (W64 ((W64 (a0.fH * 6364136223846793005)) + 1442695040888963407))], rfl, one_set rfl, ?_⟩
  refine .direct ?_
  refine ⟨rfl, ?_⟩
  refine ⟨rfl, ?_⟩
  refine ⟨rfl, _, rfl, ?_⟩
  refine ⟨by decide, ?_⟩
  refine ⟨rfl, ?_⟩
  refine ⟨rfl, ?_⟩
  refine ⟨rfl, _, rfl, ?_⟩
  refine ⟨by decide, ?_⟩
  refine .direct ?_
  refine .direct ?_
  refine ⟨rfl, ?_⟩
  refine ⟨rfl, ?_⟩
  refine ⟨rfl, _, rfl, ?_⟩
  refine ⟨rfl, ?_⟩
  refine ⟨rfl, ?_⟩
  refine ⟨rfl, _, rfl, ?_⟩
  refine splitB.mk (fun hb1 => ?_) (fun hb1 => ?_)
  · replace h := T_dec hb1 h
    refine .direct ?_
    refine ⟨rfl, ?_⟩
    refine ⟨rfl, ?_⟩
    refine ⟨rfl, _, rfl, ?_⟩
    refine ⟨rfl, ?_⟩
    refine ⟨rfl, ?_⟩
    refine ⟨rfl, _, rfl, ?_⟩
    obtain ⟨c2, hx3, h⟩ := bind_some h
    refine ⟨idx_bd hx3, _, (idx_row hx3).trans rfl, ?_⟩
    refine ⟨rfl, ?_⟩
    refine ⟨rfl, ?_⟩
    refine ⟨rfl, _, rfl, ?_⟩
    refine ⟨rfl, ?_⟩
    refine ⟨rfl, ?_⟩
    refine ⟨rfl, _, fun _ => [sl 1 cB a0.fB, .int .i64 (W64 (a0.fI + 1)), .int .i64 (W64 ((W64 (a0.fH * 6364136223846793005)) + 1442695040888963407))], rfl, one_set rfl, ?_⟩
    refine .direct ?_
    obtain rfl := Option.some.inj h
    exact ⟨[0], .int .i64 (bits .and .i64 (W64 ((bits .and .i64 (bits .xor .i64 ((W64 ((W64 (a0.fH * 6364136223846793005)) + 1442695040888963407)).fdiv (2 ^ min (33 : Int).toNat IntKind.i64.bits)) ((W64 ((W64 (a0.fH * 6364136223846793005)) + 1442695040888963407)).fdiv (2 ^ min (47 : Int).toNat IntKind.i64.bits))) 255) + (W64 ((c2.toNat : Int))))) 255), [.row g1000 3 1 100 (fun _ => [sl 1 cB ((TL1Cur.mk a0.fB (W64 (a0.fI + 1)) (W64 ((W64 (a0.fH * 6364136223846793005)) + 1442695040888963407))).fB), .int .i64 ((TL1Cur.mk a0.fB (W64 (a0.fI + 1)) (W64 ((W64 (a0.fH * 6364136223846793005)) + 1442695040888963407))).fI), .int .i64 ((TL1Cur.mk a0.fB (W64 (a0.fI + 1)) (W64 ((W64 (a0.fH * 6364136223846793005)) + 1442695040888963407))).fH)])], by decide, (show 1 ≤ 1 by decide), .int_eq rfl, ⟨⟨fun _ => ⟨rfl, rfl⟩, rfl, rfl, rfl, fun _ _ => ⟨.slc_eq rfl (fun _ _ => rfl), .int_eq rfl, .int_eq rfl, trivial⟩⟩, trivial⟩, rfl, rfl⟩
  · replace h := F_dec hb1 h
    refine .direct ?_
    obtain rfl := Option.some.inj h
    exact ⟨[0], .int .i64 (bits .and .i64 (bits .xor .i64 ((W64 ((W64 (a0.fH * 6364136223846793005)) + 1442695040888963407)).fdiv (2 ^ min (33 : Int).toNat IntKind.i64.bits)) ((W64 ((W64 (a0.fH * 6364136223846793005)) + 1442695040888963407)).fdiv (2 ^ min (47 : Int).toNat IntKind.i64.bits))) 255), [.row g1000 3 1 100 (fun _ => [sl 1 cB ((TL1Cur.mk a0.fB a0.fI (W64 ((W64 (a0.fH * 6364136223846793005)) + 1442695040888963407))).fB), .int .i64 ((TL1Cur.mk a0.fB a0.fI (W64 ((W64 (a0.fH * 6364136223846793005)) + 1442695040888963407))).fI), .int .i64 ((TL1Cur.mk a0.fB a0.fI (W64 ((W64 (a0.fH * 6364136223846793005)) + 1442695040888963407))).fH)])], by decide, (show 1 ≤ 1 by decide), .int_eq rfl, ⟨⟨fun _ => ⟨rfl, rfl⟩, rfl, rfl, rfl, fun _ _ => ⟨.slc_eq rfl (fun _ _ => rfl), .int_eq rfl, .int_eq rfl, trivial⟩⟩, trivial⟩, rfl, rfl⟩
def m40 (a0 : TL1Cur) (a1 : Int) : Option (Int × TL1Cur) :=
  (if a1 ≤ 0 then
    some (0, a0)
  else
    (if a1 ≤ 256 then
      m72 a0 >>= fun (v3, v4) =>
      must (a1 ≠ 0) >>= fun _ =>
      some (v3.tmod a1, v4)
    else
      m72 a0 >>= fun (v7, v8) =>
      m72 v8 >>= fun (v10, v11) =>
      m72 v11 >>= fun (v13, v14) =>
      must (a1 ≠ 0) >>= fun _ =>
      some ((W64 ((W64 ((W64 (v7 * 65536)) + (W64 (v10 * 256)))) + v13)).tmod a1, v14)))
theorem ok40 {a0 : TL1Cur} {a1 : Int} {r : Int × TL1Cur} {g1000 : Nat} (h : m40 a0 a1 = some r) : ACall Tryd.prog 40 [.optr 0 g1000 0 0, .int .i64 a1] [.row g1000 3 1 100 (fun _ => [sl 1 cB a0.fB, .int .i64 a0.fI, .int .i64 a0.fH])] (fun res h => res = .int .i64 r.1 ∧ h = [.row g1000 3 1 100 (fun _ => [sl 1 cB r.2.fB, .int .i64 r.2.fI, .int .i64 r.2.fH])]) := by
  refine ACall.of_vc tabT_ok mixed Tryd.func40 rfl (by kernel_rfl) _ _ _ rfl (by kernel_rfl) ?_
  unfold m40 at h
  refine .direct ?_
  refine .direct ?_
  refine .direct ?_
  refine splitB.mk (fun hb1 => ?_) (fun hb1 => ?_)
  · replace h := T_dec hb1 h
    refine .direct ?_
    obtain rfl := Option.some.inj h
    exact ⟨[0], .int .i64 0, [.row g1000 3 1 100 (fun _ => [sl 1 cB a0.fB, .int .i64 a0.fI, .int .i64 a0.fH])], by decide, (show 1 ≤ 1 by decide), .int_eq rfl, ⟨⟨fun _ => ⟨rfl, rfl⟩, rfl, rfl, rfl, fun _ _ => ⟨.slc_eq rfl (fun _ _ => rfl), .int_eq rfl, .int_eq rfl, trivial⟩⟩, trivial⟩, rfl, rfl⟩
  · replace h := F_dec hb1 h
    refine .direct ?_
    refine .direct ?_
    refine splitB.mk (fun hb2 => ?_) (fun hb2 => ?_)
    · replace h := T_dec hb2 h
      refine .direct ?_
      obtain ⟨⟨v3, v4⟩, hv5, h⟩ := bind_some h
      refine ⟨fun res h' => res = .int .i64 v3 ∧ h' = [.row g1000 3 1 100 (fun _ => [sl 1 cB v4.fB, .int .i64 v4.fI, .int .i64 v4.fH])], (ACall.over (ok72 (g1000 := g1000) hv5) [0] [.row g1000 3 1 100 (fun _ => [sl 1 cB a0.fB, .int .i64 a0.fI, .int .i64 a0.fH])] rfl (by decide) (by simp) (by intro j o hj; exact match j, hj with | 0, hj => by cases hj; rfl | j + 1, hj => by cases hj) rfl).mono (by rintro _ _ ⟨_, _, ⟨rfl, rfl⟩, rfl, rfl⟩; exact ⟨rfl, rfl⟩), ?_⟩
      rintro _ _ ⟨rfl, rfl⟩
      obtain ⟨_, hm6, h⟩ := bind_some h
      refine ⟨must_some hm6, ?_⟩
      obtain rfl := Option.some.inj h
      exact ⟨[0], .int .i64 (v3.tmod a1), [.row g1000 3 1 100 (fun _ => [sl 1 cB v4.fB, .int .i64 v4.fI, .int .i64 v4.fH])], by decide, (show 1 ≤ 1 by decide), .int_eq rfl, ⟨⟨fun _ => ⟨rfl, rfl⟩, rfl, rfl, rfl, fun _ _ => ⟨.slc_eq rfl (fun _ _ => rfl), .int_eq rfl, .int_eq rfl, trivial⟩⟩, trivial⟩, rfl, rfl⟩
    · replace h := F_dec hb2 h
      refine .direct ?_
      obtain ⟨⟨v7, v8⟩, hv9, h⟩ := bind_some h
      refine ⟨fun res h' => res = .int .i64 v7 ∧ h' = [.row g1000 3 1 100 (fun _ => [sl 1 cB v8.fB, .int .i64 v8.fI, .int .i64 v8.fH])], (ACall.over (ok72 (g1000 := g1000) hv9) [0] [.row g1000 3 1 100 (fun _ => [sl 1 cB a0.fB, .int .i64 a0.fI, .int .i64 a0.fH])] rfl (by decide) (by simp) (by intro j o hj; exact match j, hj with | 0, hj => by cases hj; rfl | j + 1, hj => by cases hj) rfl).mono (by rintro _ _ ⟨_, _, ⟨rfl, rfl⟩, rfl, rfl⟩; exact ⟨rfl, rfl⟩), ?_⟩
      rintro _ _ ⟨rfl, rfl⟩
      refine .direct ?_
      obtain ⟨⟨v10, v11⟩, hv12, h⟩ := bind_some h
      refine ⟨fun res h' => res = .int .i64 v10 ∧ h' = [.row g1000 3 1 100 (fun _ => [sl 1 cB v11.fB, .int .i64 v11.fI, .int .i64 v11.fH])], (ACall.over (ok72 (g1000 := g1000) hv12) [0] [.row g1000 3 1 100 (fun _ => [sl 1 cB v8.fB, .int .i64 v8.fI, .int .i64 v8.fH])] rfl (by decide) (by simp) (by intro j o hj; exact match j, hj with | 0, hj => by cases hj; rfl | j + 1, hj => by cases hj) rfl).mono (by rintro _ _ ⟨_, _, ⟨rfl, rfl⟩, rfl, rfl⟩; exact ⟨rfl, rfl⟩), ?_⟩
      rintro _ _ ⟨rfl, rfl⟩
      refine .direct ?_
      obtain ⟨⟨v13, v14⟩, hv15, h⟩ := bind_some h
      refine ⟨fun res h' => res = .int .i64 v13 ∧ h' = [.row g1000 3 1 100 (fun _ => [sl 1 cB v14.fB, .int .i64 v14.fI, .int .i64 v14.fH])], (ACall.over (ok72 (g1000 := g1000) hv15) [0] [.row g1000 3 1 100 (fun _ => [sl 1 cB v11.fB, .int .i64 v11.fI, .int .i64 v11.fH])] rfl (by decide) (by simp) (by intro j o hj; exact match j, hj with | 0, hj => by cases hj; rfl | j + 1, hj => by cases hj) rfl).mono (by rintro _ _ ⟨_, _, ⟨rfl, rfl⟩, rfl, rfl⟩; exact ⟨rfl, rfl⟩), ?_⟩
      rintro _ _ ⟨rfl, rfl⟩
      refine .direct ?_
      obtain ⟨_, hm16, h⟩ := bind_some h
      refine ⟨must_some hm16, ?_⟩
      obtain rfl := Option.some.inj h
      exact ⟨[0], .int .i64 ((W64 ((W64 ((W64 (v7 * 65536)) + (W64 (v10 * 256)))) + v13)).tmod a1), [.row g1000 3 1 100 (fun _ => [sl 1 cB v14.fB, .int .i64 v14.fI, .int .i64 v14.fH])], by decide, (show 1 ≤ 1 by decide), .int_eq rfl, ⟨⟨fun _ => ⟨rfl, rfl⟩, rfl, rfl, rfl, fun _ _ => ⟨.slc_eq rfl (fun _ _ => rfl), .int_eq rfl, .int_eq rfl, trivial⟩⟩, trivial⟩, rfl, rfl⟩
def m37 (a0 : TL1Cur) (a1 : Int) : Option (Bool × TL1Cur) :=
  m40 a0 a1 >>= fun (v1, v2) =>
  some ((v1 == 0), v2)
theorem ok37 {a0 : TL1Cur} {a1 : Int} {r : Bool × TL1Cur} {g1000 : Nat} (h : m37 a0 a1 = some r) : ACall Tryd.prog 37 [.optr 0 g1000 0 0, .int .i64 a1] [.row g1000 3 1 100 (fun _ => [sl 1 cB a0.fB, .int .i64 a0.fI, .int .i64 a0.fH])] (fun res h => res = .bool r.1 ∧ h = [.row g1000 3 1 100 (fun _ => [sl 1 cB r.2.fB, .int .i64 r.2.fI, .int .i64 r.2.fH])]) := by
  refine ACall.of_vc tabT_ok mixed Tryd.func37 rfl (by kernel_rfl) _ _ _ rfl (by kernel_rfl) ?_
  unfold m37 at h
  refine .direct ?_
  refine .direct ?_
  obtain ⟨⟨v1, v2⟩, hv3, h⟩ := bind_some h
  refine ⟨fun res h' => res = .int .i64 v1 ∧ h' = [.row g1000 3 1 100 (fun _ => [sl 1 cB v2.fB, .int .i64 v2.fI, .int .i64 v2.fH])], (ACall.over (ok40 (g1000 := g1000) hv3) [0] [.row g1000 3 1 100 (fun _ => [sl 1 cB a0.fB, .int .i64 a0.fI, .int .i64 a0.fH])] rfl (by decide) (by simp) (by intro j o hj; exact match j, hj with | 0, hj => by cases hj; rfl | j + 1, hj => by cases hj) rfl).mono (by rintro _ _ ⟨_, _, ⟨rfl, rfl⟩, rfl, rfl⟩; exact ⟨rfl, rfl⟩), ?_⟩
  rintro _ _ ⟨rfl, rfl⟩
  obtain rfl := Option.some.inj h
  exact ⟨[0], .bool (v1 == 0), [.row g1000 3 1 100 (fun _ => [sl 1 cB v2.fB, .int .i64 v2.fI, .int .i64 v2.fH])], by decide, (show 1 ≤ 1 by decide), .bool_eq rfl, ⟨⟨fun _ => ⟨rfl, rfl⟩, rfl, rfl, rfl, fun _ _ => ⟨.slc_eq rfl (fun _ _ => rfl), .int_eq rfl, .int_eq rfl, trivial⟩⟩, trivial⟩, rfl, rfl⟩
def m85 (a0 : TL1Cur) (a1 : List Int) : Option (Int × TL1Cur) :=
  m40 a0 (a1.length : Int) >>= fun (v1, v2) =>
  idx a1 v1 >>= fun x4 =>
  some (x4, v2)
theorem ok85 {a0 : TL1Cur} {a1 : List Int} {r : Int × TL1Cur} {g1000 : Nat} {g1001 : Nat} (h : m85 a0 a1 = some r) : ACall Tryd.prog 85 [.optr 0 g1000 0 0, .own 1 g1001 0 a1.length] [.row g1000 3 1 100 (fun _ => [sl 1 cB a0.fB, .int .i64 a0.fI, .int .i64 a0.fH]), .row g1001 1 a1.length 3 (row cI a1)] (fun res h => res = .int .i64 r.1 ∧ h = [.row g1000 3 1 100 (fun _ => [sl 1 cB r.2.fB, .int .i64 r.2.fI, .int .i64 r.2.fH]), .row g1001 1 a1.length 3 (row cI a1)]) := by
  refine ACall.of_vc tabT_ok mixed Tryd.func85 rfl (by kernel_rfl) _ _ _ rfl (by kernel_rfl) ?_
  unfold m85 at h
  refine .direct ?_
  refine .direct ?_
  refine ⟨rfl, ?_⟩
  obtain ⟨⟨v1, v2⟩, hv3, h⟩ := bind_some h
  refine ⟨fun res h' => res = .int .i64 v1 ∧ h' = [.row g1000 3 1 100 (fun _ => [sl 1 cB v2.fB, .int .i64 v2.fI, .int .i64 v2.fH]), .row g1001 1 a1.length 3 (row cI a1)], (ACall.over (ok40 (g1000 := g1000) hv3) [0] [.row g1000 3 1 100 (fun _ => [sl 1 cB a0.fB, .int .i64 a0.fI, .int .i64 a0.fH]), .row g1001 1 a1.length 3 (row cI a1)] rfl (by decide) (by simp) (by intro j o hj; exact match j, hj with | 0, hj => by cases hj; rfl | j + 1, hj => by cases hj) rfl).mono (by rintro _ _ ⟨_, _, ⟨rfl, rfl⟩, rfl, rfl⟩; exact ⟨rfl, rfl⟩), ?_⟩
  rintro _ _ ⟨rfl, rfl⟩
  obtain ⟨x4, hx5, h⟩ := bind_some h
  refine ⟨rfl, idx_bd hx5, _, Nat.zero_add _, ?_⟩
  refine ⟨rfl, _, ((idx_row hx5).trans rfl), ?_⟩
  obtain rfl := Option.some.inj h
  exact ⟨[0, 1], .int .i64 x4, [.row g1000 3 1 100 (fun _ => [sl 1 cB v2.fB, .int .i64 v2.fI, .int .i64 v2.fH]), .row g1001 1 a1.length 3 (row cI a1)], by decide, (show 2 ≤ 2 by decide), .int_eq rfl, ⟨⟨fun _ => ⟨rfl, rfl⟩, rfl, rfl, rfl, fun _ _ => ⟨.slc_eq rfl (fun _ _ => rfl), .int_eq rfl, .int_eq rfl, trivial⟩⟩, ⟨fun _ => ⟨rfl, rfl⟩, rfl, rfl, rfl, fz_row cI_pure⟩, trivial⟩, rfl, rfl⟩
def m39 (a0 : TL1Cur) (a1 : List Str) : Option (Str × TL1Cur) :=
  m40 a0 (a1.length : Int) >>= fun (v1, v2) =>
  idx a1 v1 >>= fun x4 =>
  some (x4, v2)
theorem ok39 {a0 : TL1Cur} {a1 : List Str} {r : Str × TL1Cur} {g1000 : Nat} {g1001 : Nat} (h : m39 a0 a1 = some r) : ACall Tryd.prog 39 [.optr 0 g1000 0 0, .own 1 g1001 0 a1.length] [.row g1000 3 1 100 (fun _ => [sl 1 cB a0.fB, .int .i64 a0.fI, .int .i64 a0.fH]), .row g1001 1 a1.length 9 (row cS a1)] (fun res h => res = .str r.1 ∧ h = [.row g1000 3 1 100 (fun _ => [sl 1 cB r.2.fB, .int .i64 r.2.fI, .int .i64 r.2.fH]), .row g1001 1 a1.length 9 (row cS a1)]) := by
  refine ACall.of_vc tabT_ok mixed Tryd.func39 rfl (by kernel_rfl) _ _ _ rfl (by kernel_rfl) ?_
  unfold m39 at h
  refine .direct ?_
  refine .direct ?_
  refine ⟨rfl, ?_⟩
  obtain ⟨⟨v1, v2⟩, hv3, h⟩ := bind_some h
  refine ⟨fun res h' => res = .int .i64 v1 ∧ h' = [.row g1000 3 1 100 (fun _ => [sl 1 cB v2.fB, .int .i64 v2.fI, .int .i64 v2.fH]), .row g1001 1 a1.length 9 (row cS a1)], (ACall.over (ok40 (g1000 := g1000) hv3) [0] [.row g1000 3 1 100 (fun _ => [sl 1 cB a0.fB, .int .i64 a0.fI, .int .i64 a0.fH]), .row g1001 1 a1.length 9 (row cS a1)] rfl (by decide) (by simp) (by intro j o hj; exact match j, hj with | 0, hj => by cases hj; rfl | j + 1, hj => by cases hj) rfl).mono (by rintro _ _ ⟨_, _, ⟨rfl, rfl⟩, rfl, rfl⟩; exact ⟨rfl, rfl⟩), ?_⟩
  rintro _ _ ⟨rfl, rfl⟩
  obtain ⟨x4, hx5, h⟩ := bind_some h
  refine ⟨rfl, idx_bd hx5, _, Nat.zero_add _, ?_⟩
  refine ⟨rfl, _, ((idx_row hx5).trans rfl), ?_⟩
  obtain rfl := Option.some.inj h
  exact ⟨[0, 1], .str x4, [.row g1000 3 1 100 (fun _ => [sl 1 cB v2.fB, .int .i64 v2.fI, .int .i64 v2.fH]), .row g1001 1 a1.length 9 (row cS a1)], by decide, (show 2 ≤ 2 by decide), .str_eq rfl, ⟨⟨fun _ => ⟨rfl, rfl⟩, rfl, rfl, rfl, fun _ _ => ⟨.slc_eq rfl (fun _ _ => rfl), .int_eq rfl, .int_eq rfl, trivial⟩⟩, ⟨fun _ => ⟨rfl, rfl⟩, rfl, rfl, rfl, fz_row cS_pure⟩, trivial⟩, rfl, rfl⟩
def m97 (a0 : Int) : Option (Bool) :=
  (if a0 ≥ 65 then
    (if a0 ≤ 90 then
      some true
    else
      (if a0 ≥ 97 then
        some (decide (a0 ≤ 122))
      else
        some false))
  else
    (if a0 ≥ 97 then
      some (decide (a0 ≤ 122))
    else
      some false))
theorem ok97 {a0 : Int} {r : Bool} (h : m97 a0 = some r) : ACall Tryd.prog 97 [.int .u8 a0] [] (fun res h => res = .bool r ∧ h = []) := by
  refine ACall.of_vc tabT_ok mixed Tryd.func97 rfl (by kernel_rfl) _ _ _ rfl (by kernel_rfl) ?_
  unfold m97 at h
  refine .direct ?_
  refine .direct ?_
  refine splitB.mk (fun hb1 => ?_) (fun hb1 => ?_)
  · replace h := T_dec hb1 h
    refine splitB_t ?_
    refine splitB_t ?_
    refine splitB.mk (fun hb2 => ?_) (fun hb2 => ?_)
    · replace h := T_dec hb2 h
      refine splitB_t ?_
      refine splitB_t ?_
      refine splitB_t ?_
      refine splitB_t ?_
      obtain rfl := Option.some.inj h
      exact ⟨[], .bool true, [], by decide, (show 0 ≤ 0 by decide), .bool_eq rfl, trivial, rfl, rfl⟩
    · replace h := F_dec hb2 h
      refine splitB_f ?_
      refine splitB_f ?_
      refine splitB.mk (fun hb3 => ?_) (fun hb3 => ?_)
      · replace h := T_dec hb3 h
        refine splitB_t ?_
        refine splitB_f ?_
        refine splitB_t ?_
        refine splitB_f ?_
        obtain rfl := Option.some.inj h
        exact ⟨[], .bool (decide (a0 ≤ 122)), [], by decide, (show 0 ≤ 0 by decide), .bool_eq rfl, trivial, rfl, rfl⟩
      · replace h := F_dec hb3 h
        refine splitB_f ?_
        refine splitB_f ?_
        refine splitB_f ?_
        refine splitB_f ?_
        obtain rfl := Option.some.inj h
        exact ⟨[], .bool false, [], by decide, (show 0 ≤ 0 by decide), .bool_eq rfl, trivial, rfl, rfl⟩
  · replace h := F_dec hb1 h
    refine splitB_f ?_
    refine splitB_f ?_
    refine splitB_f ?_
    refine splitB_f ?_
    refine splitB_f ?_
    refine splitB.mk (fun hb4 => ?_) (fun hb4 => ?_)
    · replace h := T_dec hb4 h
      refine splitB_t ?_
      refine splitB_f ?_
      refine splitB_t ?_
      refine splitB_f ?_
      obtain rfl := Option.some.inj h
      exact ⟨[], .bool (decide (a0 ≤ 122)), [], by decide, (show 0 ≤ 0 by decide), .bool_eq rfl, trivial, rfl, rfl⟩
    · replace h := F_dec hb4 h
      refine splitB_f ?_
      refine splitB_f ?_
      refine splitB_f ?_
      refine splitB_f ?_
      obtain rfl := Option.some.inj h
      exact ⟨[], .bool false, [], by decide, (show 0 ≤ 0 by decide), .bool_eq rfl, trivial, rfl, rfl⟩
def m68 (a0 : Int) : Option (Bool) :=
  (if a0 ≥ 48 then
    some (decide (a0 ≤ 57))
  else
    some false)
theorem ok68 {a0 : Int} {r : Bool} (h : m68 a0 = some r) : ACall Tryd.prog 68 [.int .u8 a0] [] (fun res h => res = .bool r ∧ h = []) := by
  refine ACall.of_vc tabT_ok mixed Tryd.func68 rfl (by kernel_rfl) _ _ _ rfl (by kernel_rfl) ?_
  unfold m68 at h
  refine .direct ?_
  refine .direct ?_
  refine splitB.mk (fun hb1 => ?_) (fun hb1 => ?_)
  · replace h := T_dec hb1 h
    refine splitB_t ?_
    refine splitB_t ?_
    obtain rfl := Option.some.inj h
    exact ⟨[], .bool (decide (a0 ≤ 57)), [], by decide, (show 0 ≤ 0 by decide), .bool_eq rfl, trivial, rfl, rfl⟩
  · replace h := F_dec hb1 h
    refine splitB_f ?_
    refine splitB_f ?_
    obtain rfl := Option.some.inj h
    exact ⟨[], .bool false, [], by decide, (show 0 ≤ 0 by decide), .bool_eq rfl, trivial, rfl, rfl⟩
def m103_L2 (a0 : Str) (y18 : Int) (y19 : Int) : Option (Int) :=
  (if y18 < (a0.length : Int) then
    sidx a0 y18 >>= fun c23 =>
    m68 (c23.toNat : Int) >>= fun v25 =>
    (if v25 = true then
      sidx a0 y18 >>= fun c28 =>
      m115 (W64 ((W64 (y19 * 10)) + (W64 (IntKind.u8.wrap ((c28.toNat : Int) - 48))))) 1000000000 >>= fun v30 =>
      m103_L2 a0 (W64 (y18 + 1)) v30
    else
      some y19)
  else
    some y19)
partial_fixpoint
def m103 (a0 : Str) : Option (Int) :=
  (
    (if a0 = ([] : Str) then
      some false
    else
      sidx a0 0 >>= fun c6 =>
      some ((c6.toNat : Int) == 45))
   : Option (Bool)) >>= fun b1 =>
  (
    (if b1 = true then
      some 1
    else
      some 0)
   : Option (Int)) >>= fun y9 =>
  (
    m103_L2 a0 y9 0
   : Option (Int)) >>= fun y14 =>
  (if b1 = true then
    some (W64 (0 - y14))
  else
    some y14)
theorem ok103 {a0 : Str} {r : Int} (h : m103 a0 = some r) : ACall Tryd.prog 103 [.str a0] [] (fun res h => res = .int .i64 r ∧ h = []) := by
  refine ACall.of_vc tabT_ok mixed Tryd.func103 rfl (by kernel_rfl) _ _ _ rfl (by kernel_rfl) ?_
  unfold m103 at h
  refine .direct ?_
  obtain ⟨o2, ho3, hk4⟩ := bind_some h
  replace h := ho3
  refine .cut (fun σ η => ∃ b1, b1 = o2 ∧ σ = [(0, .str a0), (3, .bool b1)] ∧ η = []) ?_ ?_
  · refine splitB.mk (fun hb5 => ?_) (fun hb5 => ?_)
    · have hb8 := not_F hb5
      replace h := F_beq hb8 h
      refine splitB_t ?_
      obtain ⟨c6, hx7, h⟩ := bind_some h
      refine ⟨sidx_bd hx7, c6, sidx_at hx7, ?_⟩
      refine splitB_t ?_
      refine splitB_t ?_
      exact ⟨[(0, .str a0), (3, .bool ((c6.toNat : Int) == 45))], [], ⟨[], by decide, (show 0 ≤ 0 by decide), ⟨.str_eq rfl, .bool_eq rfl, trivial⟩, trivial⟩, ((c6.toNat : Int) == 45), Option.some.inj h, rfl, rfl⟩
    · have hb8 := not_T hb5
      replace h := T_beq hb8 h
      refine splitB_f ?_
      refine splitB_f ?_
      refine splitB_f ?_
      exact ⟨[(0, .str a0), (3, .bool false)], [], ⟨[], by decide, (show 0 ≤ 0 by decide), ⟨.str_eq rfl, .bool_eq rfl, trivial⟩, trivial⟩, false, Option.some.inj h, rfl, rfl⟩
  · rintro _ _ ⟨b1, rfl, rfl, rfl⟩
    replace h := hk4
    refine .direct ?_
    obtain ⟨o10, ho11, hk12⟩ := bind_some h
    replace h := ho11
    refine .cut (fun σ η => ∃ y9, y9 = o10 ∧ σ = [(0, .str a0), (3, .bool b1), (4, .int .i64 y9)] ∧ η = []) ?_ ?_
    · refine .direct ?_
      refine splitB.mk (fun hb13 => ?_) (fun hb13 => ?_)
      · replace h := T_var hb13 h
        exact ⟨[(0, .str a0), (3, .bool b1), (4, .int .i64 1)], [], ⟨[], by decide, (show 0 ≤ 0 by decide), ⟨.str_eq rfl, .bool_eq rfl, .int_eq rfl, trivial⟩, trivial⟩, 1, Option.some.inj h, rfl, rfl⟩
      · replace h := F_var hb13 h
        exact ⟨[(0, .str a0), (3, .bool b1), (4, .int .i64 0)], [], ⟨[], by decide, (show 0 ≤ 0 by decide), ⟨.str_eq rfl, .bool_eq rfl, .int_eq rfl, trivial⟩, trivial⟩, 0, Option.some.inj h, rfl, rfl⟩
    · rintro _ _ ⟨y9, rfl, rfl, rfl⟩
      replace h := hk12
      refine .direct ?_
      obtain ⟨o15, ho16, hk17⟩ := bind_some h
      replace h := ho16
      refine .cut (fun σ η => ∃ y14, y14 = o15 ∧ σ = [(3, .bool b1), (5, .int .i64 y14)] ∧ η = []) ?_ ?_
      · refine LoopAt.enter [(0, .str a0), (3, .bool b1), (4, .int .i64 y9), (5, .int .i64 0)] [] ⟨[], by decide, (show 0 ≤ 0 by decide), ⟨.str_eq rfl, .bool_eq rfl, .int_eq rfl, .int_eq rfl, trivial⟩, trivial⟩ ?_
        refine m103_L2.partial_correctness a0 (motive := fun y18 y19 o32 => o15 = o32 → LoopAt _ _ [(0, .str a0), (3, .bool b1), (4, .int .i64 y18), (5, .int .i64 y19)] []) ?_ y9 0 o15 h rfl
        intro F21 ih20 y18 y19 o32 h hr33
        subst hr33
        refine LoopAt.round ?_
        refine .direct ?_
        refine .direct ?_
        refine splitB.mk (fun hb22 => ?_) (fun hb22 => ?_)
        · replace h := T_dec hb22 h
          refine splitB_t ?_
          refine splitB_t ?_
          obtain ⟨c23, hx24, h⟩ := bind_some h
          refine ⟨sidx_bd hx24, c23, sidx_at hx24, ?_⟩
          refine splitB_t ?_
          obtain ⟨v25, hv26, h⟩ := bind_some h
          refine ⟨_, ACall.pure0 (ok68 hv26) _ rfl (fun _ => rfl), ?_⟩
          rintro _ _ ⟨rfl, rfl⟩
          refine splitB_t ?_
          refine splitB.mk (fun hb27 => ?_) (fun hb27 => ?_)
          · replace h := T_var hb27 h
            refine .direct ?_
            obtain ⟨c28, hx29, h⟩ := bind_some h
            refine ⟨sidx_bd hx29, c28, sidx_at hx29, ?_⟩
            obtain ⟨v30, hv31, h⟩ := bind_some h
            refine ⟨_, ACall.pure0 (ok115 hv31) _ rfl (fun _ => rfl), ?_⟩
            rintro _ _ ⟨rfl, rfl⟩
            exact ⟨[(0, .str a0), (3, .bool b1), (4, .int .i64 (W64 (y18 + 1))), (5, .int .i64 v30)], [], ⟨[], by decide, (show 0 ≤ 0 by decide), ⟨.str_eq rfl, .bool_eq rfl, .int_eq rfl, .int_eq rfl, trivial⟩, trivial⟩, ih20 _ _ _ h rfl⟩
          · replace h := F_var hb27 h
            exact ⟨[(3, .bool b1), (5, .int .i64 y19)], [], ⟨[], by decide, (show 0 ≤ 0 by decide), ⟨.bool_eq rfl, .int_eq rfl, trivial⟩, trivial⟩, y19, Option.some.inj h, rfl, rfl⟩
        · replace h := F_dec hb22 h
          refine splitB_f ?_
          refine splitB_f ?_
          refine splitB_f ?_
          refine splitB_f ?_
          refine splitB_f ?_
          exact ⟨[(3, .bool b1), (5, .int .i64 y19)], [], ⟨[], by decide, (show 0 ≤ 0 by decide), ⟨.bool_eq rfl, .int_eq rfl, trivial⟩, trivial⟩, y19, Option.some.inj h, rfl, rfl⟩
      · rintro _ _ ⟨y14, rfl, rfl, rfl⟩
        replace h := hk17
        refine .direct ?_
        refine .direct ?_
        refine splitB.mk (fun hb34 => ?_) (fun hb34 => ?_)
        · replace h := T_var hb34 h
          refine .direct ?_
          obtain rfl := Option.some.inj h
          exact ⟨[], .int .i64 (W64 (0 - y14)), [], by decide, (show 0 ≤ 0 by decide), .int_eq rfl, trivial, rfl, rfl⟩
        · replace h := F_var hb34 h
          refine .direct ?_
          obtain rfl := Option.some.inj h
          exact ⟨[], .int .i64 y14, [], by decide, (show 0 ≤ 0 by decide), .int_eq rfl, trivial, rfl, rfl⟩
def m102_L2 (s1 : Str) (y18 : Int) (y19 : Int) : Option ((Int) ⊕ Bool) :=
  (if y19 < (s1.length : Int) then
    sidx s1 y19 >>= fun c23 =>
    m68 (c23.toNat : Int) >>= fun v25 =>
    (if v25 = true then
      sidx s1 y19 >>= fun c28 =>
      m102_L2 s1 (W64 ((W64 (y18 * 10)) + (W64 (IntKind.u8.wrap ((c28.toNat : Int) - 48))))) (W64 (y19 + 1))
    else
      some (.inr false))
  else
    some (.inl y18))
partial_fixpoint
def m102 (a0 : Str) : Option (Bool) :=
  (
    (if a0 = ([] : Str) then
      some a0
    else
      sidx a0 0 >>= fun c6 =>
      (if (c6.toNat : Int) = 45 then
        sfrom a0 1 >>= fun s9 =>
        some s9
      else
        some a0))
   : Option (Str)) >>= fun s1 =>
  (if (s1.length : Int) < 1 then
    some false
  else
    (if (s1.length : Int) > 10 then
      some false
    else
      ((
        m102_L2 s1 0 0
       : Option ((Int) ⊕ Bool)) >>= fun o15 => match o15 with
        | .inr r => some r
        | .inl y14 =>
          some (decide (y14 ≤ 1000000000))
      )))
theorem ok102 {a0 : Str} {r : Bool} (h : m102 a0 = some r) : ACall Tryd.prog 102 [.str a0] [] (fun res h => res = .bool r ∧ h = []) := by
  refine ACall.of_vc tabT_ok mixed Tryd.func102 rfl (by kernel_rfl) _ _ _ rfl (by kernel_rfl) ?_
  unfold m102 at h
  refine .direct ?_
  refine .direct ?_
  obtain ⟨o2, ho3, hk4⟩ := bind_some h
  replace h := ho3
  refine .cut (fun σ η => ∃ s1, s1 = o2 ∧ σ = [(3, .str s1)] ∧ η = []) ?_ ?_
  · refine .direct ?_
    refine splitB.mk (fun hb5 => ?_) (fun hb5 => ?_)
    · have hb11 := not_F hb5
      replace h := F_beq hb11 h
      refine splitB_t ?_
      obtain ⟨c6, hx7, h⟩ := bind_some h
      refine ⟨sidx_bd hx7, c6, sidx_at hx7, ?_⟩
      refine splitB_t ?_
      refine splitB_t ?_
      refine splitB.mk (fun hb8 => ?_) (fun hb8 => ?_)
      · replace h := T_beq hb8 h
        obtain ⟨s9, hx10, h⟩ := bind_some h
        refine ⟨sfrom_bd hx10, s9, sfrom_at hx10, ?_⟩
        exact ⟨[(3, .str s9)], [], ⟨[], by decide, (show 0 ≤ 0 by decide), ⟨.str_eq rfl, trivial⟩, trivial⟩, s9, Option.some.inj h, rfl, rfl⟩
      · replace h := F_beq hb8 h
        exact ⟨[(3, .str a0)], [], ⟨[], by decide, (show 0 ≤ 0 by decide), ⟨.str_eq rfl, trivial⟩, trivial⟩, a0, Option.some.inj h, rfl, rfl⟩
    · have hb11 := not_T hb5
      replace h := T_beq hb11 h
      refine splitB_f ?_
      refine splitB_f ?_
      refine splitB_f ?_
      refine splitB_f ?_
      exact ⟨[(3, .str a0)], [], ⟨[], by decide, (show 0 ≤ 0 by decide), ⟨.str_eq rfl, trivial⟩, trivial⟩, a0, Option.some.inj h, rfl, rfl⟩
  · rintro _ _ ⟨s1, rfl, rfl, rfl⟩
    replace h := hk4
    refine .direct ?_
    refine .direct ?_
    refine splitB.mk (fun hb12 => ?_) (fun hb12 => ?_)
    · replace h := T_dec hb12 h
      refine splitB_t ?_
      refine splitB_t ?_
      refine splitB_t ?_
      refine splitB_t ?_
      refine .direct ?_
      obtain rfl := Option.some.inj h
      exact ⟨[], .bool false, [], by decide, (show 0 ≤ 0 by decide), .bool_eq rfl, trivial, rfl, rfl⟩
    · replace h := F_dec hb12 h
      refine splitB_f ?_
      refine splitB_f ?_
      refine splitB_f ?_
      refine splitB.mk (fun hb13 => ?_) (fun hb13 => ?_)
      · replace h := T_dec hb13 h
        refine .direct ?_
        obtain rfl := Option.some.inj h
        exact ⟨[], .bool false, [], by decide, (show 0 ≤ 0 by decide), .bool_eq rfl, trivial, rfl, rfl⟩
      · replace h := F_dec hb13 h
        refine .direct ?_
        obtain ⟨o15, ho16, hk17⟩ := bind_some h
        replace h := ho16
        refine .cut (fun σ η => ∃ y14, .inl y14 = o15 ∧ σ = [(4, .int .i64 y14)] ∧ η = []) ?_ ?_
        · refine .direct ?_
          refine LoopAt.enter [(3, .str s1), (4, .int .i64 0), (5, .int .i64 0)] [] ⟨[], by decide, (show 0 ≤ 0 by decide), ⟨.str_eq rfl, .int_eq rfl, .int_eq rfl, trivial⟩, trivial⟩ ?_
          refine m102_L2.partial_correctness s1 (motive := fun y18 y19 o31 => o15 = o31 → LoopAt _ _ [(3, .str s1), (4, .int .i64 y18), (5, .int .i64 y19)] []) ?_ 0 0 o15 h rfl
          intro F21 ih20 y18 y19 o31 h hr32
          subst hr32
          refine LoopAt.round ?_
          refine .direct ?_
          refine .direct ?_
          refine splitB.mk (fun hb22 => ?_) (fun hb22 => ?_)
          · replace h := T_dec hb22 h
            refine .direct ?_
            refine .direct ?_
            refine .direct ?_
            obtain ⟨c23, hx24, h⟩ := bind_some h
            refine ⟨sidx_bd hx24, c23, sidx_at hx24, ?_⟩
            obtain ⟨v25, hv26, h⟩ := bind_some h
            refine ⟨_, ACall.pure0 (ok68 hv26) _ rfl (fun _ => rfl), ?_⟩
            rintro _ _ ⟨rfl, rfl⟩
            refine splitB.mk (fun hb27 => ?_) (fun hb27 => ?_)
            · have hb30 := not_F hb27
              replace h := F_var hb30 h
              refine .direct ?_
              obtain rfl := Option.some.inj h
              replace h := hk17
              obtain rfl := Option.some.inj h
              exact ⟨[], .bool false, [], by decide, (show 0 ≤ 0 by decide), .bool_eq rfl, trivial, rfl, rfl⟩
            · have hb30 := not_T hb27
              replace h := T_var hb30 h
              obtain ⟨c28, hx29, h⟩ := bind_some h
              refine ⟨sidx_bd hx29, c28, sidx_at hx29, ?_⟩
              exact ⟨[(3, .str s1), (4, .int .i64 (W64 ((W64 (y18 * 10)) + (W64 (IntKind.u8.wrap ((c28.toNat : Int) - 48)))))), (5, .int .i64 (W64 (y19 + 1)))], [], ⟨[], by decide, (show 0 ≤ 0 by decide), ⟨.str_eq rfl, .int_eq rfl, .int_eq rfl, trivial⟩, trivial⟩, ih20 _ _ _ h rfl⟩
          · replace h := F_dec hb22 h
            exact ⟨[(4, .int .i64 y18)], [], ⟨[], by decide, (show 0 ≤ 0 by decide), ⟨.int_eq rfl, trivial⟩, trivial⟩, y18, Option.some.inj h, rfl, rfl⟩
        · rintro _ _ ⟨y14, rfl, rfl, rfl⟩
          replace h := hk17
          refine .direct ?_
          obtain rfl := Option.some.inj h
          exact ⟨[], .bool (decide (y14 ≤ 1000000000)), [], by decide, (show 0 ≤ 0 by decide), .bool_eq rfl, trivial, rfl, rfl⟩
def m101 (a0 : TValue) : Option (Int) :=
  (if a0.fKind = 2 then
    some a0.fNum
  else
    (if a0.fKind = 3 then
      m103 a0.fStr >>= fun v3 =>
      some v3
    else
      m78 a0 >>= fun v5 =>
      (if v5 = true then
        some 1
      else
        some 0)))
theorem ok101 {a0 : TValue} {r : Int} (h : m101 a0 = some r) : ACall Tryd.prog 101 [.agg [.int .i64 a0.fKind, .int .i64 a0.fNum, .str a0.fStr, .int .i64 a0.fNext, sl 8 TEntry.cells a0.fItems]] [] (fun res h => res = .int .i64 r ∧ h = []) := by
  refine ACall.of_vc tabT_ok mixed Tryd.func101 rfl (by kernel_rfl) _ _ _ rfl (by kernel_rfl) ?_
  unfold m101 at h
  refine .direct ?_
  refine .direct ?_
  refine .direct ?_
  refine ⟨rfl, ?_⟩
  refine ⟨rfl, _, rfl, ?_⟩
  refine .direct ?_
  refine splitB.mk (fun hb1 => ?_) (fun hb1 => ?_)
  · replace h := T_beq hb1 h
    refine .direct ?_
    refine ⟨rfl, ?_⟩
    refine ⟨rfl, _, rfl, ?_⟩
    obtain rfl := Option.some.inj h
    exact ⟨[], .int .i64 a0.fNum, [], by decide, (show 0 ≤ 0 by decide), .int_eq rfl, trivial, rfl, rfl⟩
  · replace h := F_beq hb1 h
    refine .direct ?_
    refine splitB.mk (fun hb2 => ?_) (fun hb2 => ?_)
    · replace h := T_beq hb2 h
      refine .direct ?_
      refine ⟨rfl, ?_⟩
      refine ⟨rfl, _, rfl, ?_⟩
      obtain ⟨v3, hv4, h⟩ := bind_some h
      refine ⟨_, ACall.pure0 (ok103 hv4) _ rfl (fun _ => rfl), ?_⟩
      rintro _ _ ⟨rfl, rfl⟩
      obtain rfl := Option.some.inj h
      exact ⟨[], .int .i64 v3, [], by decide, (show 0 ≤ 0 by decide), .int_eq rfl, trivial, rfl, rfl⟩
    · replace h := F_beq hb2 h
      refine .direct ?_
      refine .direct ?_
      refine ⟨rfl, _, rfl, ?_⟩
      obtain ⟨v5, hv6, h⟩ := bind_some h
      refine ⟨_, ACall.pure0 (ok78 hv6) _ rfl (fun _ => rfl), ?_⟩
      rintro _ _ ⟨rfl, rfl⟩
      refine splitB.mk (fun hb7 => ?_) (fun hb7 => ?_)
      · replace h := T_var hb7 h
        refine .direct ?_
        obtain rfl := Option.some.inj h
        exact ⟨[], .int .i64 1, [], by decide, (show 0 ≤ 0 by decide), .int_eq rfl, trivial, rfl, rfl⟩
      · replace h := F_var hb7 h
        refine .direct ?_
        obtain rfl := Option.some.inj h
        exact ⟨[], .int .i64 0, [], by decide, (show 0 ≤ 0 by decide), .int_eq rfl, trivial, rfl, rfl⟩
def m79 (a0 : TValue) : Option (Int × Int) :=
  (
    (if a0.fKind = 0 then
      some (a0.fKind == 0)
    else
      (if a0.fKind = 1 then
        some (a0.fKind == 1)
      else
        some (a0.fKind == 2)))
   : Option (Bool)) >>= fun b1 =>
  (if b1 = true then
    m101 a0 >>= fun v8 =>
    some (v8, 0)
  else
    (if a0.fKind = 3 then
      m102 a0.fStr >>= fun v11 =>
      (if v11 = true then
        m103 a0.fStr >>= fun v14 =>
        some (v14, 0)
      else
        some (0, 2))
    else
      some (0, 2)))
theorem ok79 {a0 : TValue} {r : Int × Int} (h : m79 a0 = some r) : ACall Tryd.prog 79 [.agg [.int .i64 a0.fKind, .int .i64 a0.fNum, .str a0.fStr, .int .i64 a0.fNext, sl 8 TEntry.cells a0.fItems]] [] (fun res h => res = .tup [.int .i64 r.1, .int .i64 r.2] ∧ h = []) := by
  refine ACall.of_vc tabT_ok mixed Tryd.func79 rfl (by kernel_rfl) _ _ _ rfl (by kernel_rfl) ?_
  unfold m79 at h
  refine .direct ?_
  refine .direct ?_
  refine .direct ?_
  refine ⟨rfl, ?_⟩
  refine ⟨rfl, _, rfl, ?_⟩
  obtain ⟨o2, ho3, hk4⟩ := bind_some h
  replace h := ho3
  refine .cut (fun σ η => ∃ b1, b1 = o2 ∧ σ = [(1, .optr 0 0 0 0), (5, .int .i64 a0.fKind), (6, .bool b1)] ∧ η = [.row 0 5 1 40 (fun _ => [.int .i64 a0.fKind, .int .i64 a0.fNum, .str a0.fStr, .int .i64 a0.fNext, sl 8 TEntry.cells a0.fItems])]) ?_ ?_
  · refine .direct ?_
    refine splitB.mk (fun hb5 => ?_) (fun hb5 => ?_)
    · replace h := T_beq hb5 h
      exact ⟨[(1, .optr 0 0 0 0), (5, .int .i64 a0.fKind), (6, .bool (a0.fKind == 0))], [.row 0 5 1 40 (fun _ => [.int .i64 a0.fKind, .int .i64 a0.fNum, .str a0.fStr, .int .i64 a0.fNext, sl 8 TEntry.cells a0.fItems])], ⟨[0], by decide, (show 0 ≤ 1 by decide), ⟨.optr_eq rfl ⟨_, _, _, _, rfl⟩ ⟨_, _, _, _, rfl⟩ rfl rfl, .int_eq rfl, .bool_eq rfl, trivial⟩, ⟨⟨fun h0 => absurd (show 0 < 0 from h0) (by decide), rfl, rfl, rfl, fun _ _ => ⟨.int_eq rfl, .int_eq rfl, .str_eq rfl, .int_eq rfl, .slc_eq rfl (fun _ _ => rfl), trivial⟩⟩, trivial⟩⟩, (a0.fKind == 0), Option.some.inj h, rfl, rfl⟩
    · replace h := F_beq hb5 h
      refine .direct ?_
      refine splitB.mk (fun hb6 => ?_) (fun hb6 => ?_)
      · replace h := T_beq hb6 h
        exact ⟨[(1, .optr 0 0 0 0), (5, .int .i64 a0.fKind), (6, .bool (a0.fKind == 1))], [.row 0 5 1 40 (fun _ => [.int .i64 a0.fKind, .int .i64 a0.fNum, .str a0.fStr, .int .i64 a0.fNext, sl 8 TEntry.cells a0.fItems])], ⟨[0], by decide, (show 0 ≤ 1 by decide), ⟨.optr_eq rfl ⟨_, _, _, _, rfl⟩ ⟨_, _, _, _, rfl⟩ rfl rfl, .int_eq rfl, .bool_eq rfl, trivial⟩, ⟨⟨fun h0 => absurd (show 0 < 0 from h0) (by decide), rfl, rfl, rfl, fun _ _ => ⟨.int_eq rfl, .int_eq rfl, .str_eq rfl, .int_eq rfl, .slc_eq rfl (fun _ _ => rfl), trivial⟩⟩, trivial⟩⟩, (a0.fKind == 1), Option.some.inj h, rfl, rfl⟩
      · replace h := F_beq hb6 h
        exact ⟨[(1, .optr 0 0 0 0), (5, .int .i64 a0.fKind), (6, .bool (a0.fKind == 2))], [.row 0 5 1 40 (fun _ => [.int .i64 a0.fKind, .int .i64 a0.fNum, .str a0.fStr, .int .i64 a0.fNext, sl 8 TEntry.cells a0.fItems])], ⟨[0], by decide, (show 0 ≤ 1 by decide), ⟨.optr_eq rfl ⟨_, _, _, _, rfl⟩ ⟨_, _, _, _, rfl⟩ rfl rfl, .int_eq rfl, .bool_eq rfl, trivial⟩, ⟨⟨fun h0 => absurd (show 0 < 0 from h0) (by decide), rfl, rfl, rfl, fun _ _ => ⟨.int_eq rfl, .int_eq rfl, .str_eq rfl, .int_eq rfl, .slc_eq rfl (fun _ _ => rfl), trivial⟩⟩, trivial⟩⟩, (a0.fKind == 2), Option.some.inj h, rfl, rfl⟩
  · rintro _ _ ⟨b1, rfl, rfl, rfl⟩
    replace h := hk4
    refine splitB.mk (fun hb7 => ?_) (fun hb7 => ?_)
    · replace h := T_var hb7 h
      refine .direct ?_
      refine ⟨rfl, _, rfl, ?_⟩
      obtain ⟨v8, hv9, h⟩ := bind_some h
      refine ⟨_, ACall.pure0 (ok101 hv9) _ rfl (fun _ => rfl), ?_⟩
      rintro _ _ ⟨rfl, rfl⟩
      obtain rfl := Option.some.inj h
      exact ⟨[], .tup [.int .i64 v8, .int .i64 0], [], by decide, (show 0 ≤ 0 by decide), .tup_l ⟨.int_eq rfl, .int_eq rfl, trivial⟩, trivial, rfl, rfl⟩
    · replace h := F_var hb7 h
      refine .direct ?_
      refine splitB.mk (fun hb10 => ?_) (fun hb10 => ?_)
      · replace h := T_beq hb10 h
        refine .direct ?_
        refine ⟨rfl, ?_⟩
        refine ⟨rfl, _, rfl, ?_⟩
        obtain ⟨v11, hv12, h⟩ := bind_some h
        refine ⟨_, ACall.pure0 (ok102 hv12) _ rfl (fun _ => rfl), ?_⟩
        rintro _ _ ⟨rfl, rfl⟩
        refine splitB.mk (fun hb13 => ?_) (fun hb13 => ?_)
        · replace h := T_var hb13 h
          refine .direct ?_
          refine ⟨rfl, ?_⟩
          refine ⟨rfl, _, rfl, ?_⟩
          obtain ⟨v14, hv15, h⟩ := bind_some h
          refine ⟨_, ACall.pure0 (ok103 hv15) _ rfl (fun _ => rfl), ?_⟩
          rintro _ _ ⟨rfl, rfl⟩
          obtain rfl := Option.some.inj h
          exact ⟨[], .tup [.int .i64 v14, .int .i64 0], [], by decide, (show 0 ≤ 0 by decide), .tup_l ⟨.int_eq rfl, .int_eq rfl, trivial⟩, trivial, rfl, rfl⟩
        · replace h := F_var hb13 h
          refine .direct ?_
          obtain rfl := Option.some.inj h
          exact ⟨[], .tup [.int .i64 0, .int .i64 2], [], by decide, (show 0 ≤ 0 by decide), .tup_l ⟨.int_eq rfl, .int_eq rfl, trivial⟩, trivial, rfl, rfl⟩
      · replace h := F_beq hb10 h
        refine .direct ?_
        obtain rfl := Option.some.inj h
        exact ⟨[], .tup [.int .i64 0, .int .i64 2], [], by decide, (show 0 ≤ 0 by decide), .tup_l ⟨.int_eq rfl, .int_eq rfl, trivial⟩, trivial, rfl, rfl⟩
def m67_L2 (a0 : Str) (y5 : Int) : Option (Int) :=
  (if y5 < (a0.length : Int) then
    sidx a0 y5 >>= fun c9 =>
    m97 (c9.toNat : Int) >>= fun v11 =>
    (if v11 = true then
      m67_L2 a0 (W64 (y5 + 1))
    else
      sidx a0 y5 >>= fun c14 =>
      (if (c14.toNat : Int) = 95 then
        m67_L2 a0 (W64 (y5 + 1))
      else
        (if y5 > 0 then
          sidx a0 y5 >>= fun c18 =>
          m68 (c18.toNat : Int) >>= fun v20 =>
          (if v20 = true then
            m67_L2 a0 (W64 (y5 + 1))
          else
            some y5)
        else
          some y5)))
  else
    some y5)
partial_fixpoint
def m67 (a0 : Str) : Option (Int) :=
  (
    m67_L2 a0 0
   : Option (Int)) >>= fun y1 =>
  some y1
theorem ok67 {a0 : Str} {r : Int} (h : m67 a0 = some r) : ACall Tryd.prog 67 [.str a0] [] (fun res h => res = .int .i64 r ∧ h = []) := by
  refine ACall.of_vc tabT_ok mixed Tryd.func67 rfl (by kernel_rfl) _ _ _ rfl (by kernel_rfl) ?_
  unfold m67 at h
  refine .direct ?_
  refine .direct ?_
  obtain ⟨o2, ho3, hk4⟩ := bind_some h
  replace h := ho3
  refine .cut (fun σ η => ∃ y1, y1 = o2 ∧ σ = [(3, .int .i64 y1)] ∧ η = []) ?_ ?_
  · refine LoopAt.enter [(0, .str a0), (3, .int .i64 0)] [] ⟨[], by decide, (show 0 ≤ 0 by decide), ⟨.str_eq rfl, .int_eq rfl, trivial⟩, trivial⟩ ?_
    refine m67_L2.partial_correctness a0 (motive := fun y5 o23 => o2 = o23 → LoopAt _ _ [(0, .str a0), (3, .int .i64 y5)] []) ?_ 0 o2 h rfl
    intro F7 ih6 y5 o23 h hr24
    subst hr24
    refine LoopAt.round ?_
    refine .direct ?_
    refine .direct ?_
    refine splitB.mk (fun hb8 => ?_) (fun hb8 => ?_)
    · replace h := T_dec hb8 h
      refine splitB_t ?_
      refine splitB_t ?_
      obtain ⟨c9, hx10, h⟩ := bind_some h
      refine ⟨sidx_bd hx10, c9, sidx_at hx10, ?_⟩
      refine splitB_t ?_
      obtain ⟨v11, hv12, h⟩ := bind_some h
      refine ⟨_, ACall.pure0 (ok97 hv12) _ rfl (fun _ => rfl), ?_⟩
      rintro _ _ ⟨rfl, rfl⟩
      refine splitB_t ?_
      refine splitB.mk (fun hb13 => ?_) (fun hb13 => ?_)
      · replace h := T_var hb13 h
        refine splitB_t ?_
        refine splitB_t ?_
        refine splitB_t ?_
        refine splitB_t ?_
        refine splitB_t ?_
        refine splitB_t ?_
        refine splitB_t ?_
        refine splitB_t ?_
        refine splitB_t ?_
        refine splitB_t ?_
        refine splitB_t ?_
        refine splitB_t ?_
        refine splitB_t ?_
        refine splitB_t ?_
        exact ⟨[(0, .str a0), (3, .int .i64 (W64 (y5 + 1)))], [], ⟨[], by decide, (show 0 ≤ 0 by decide), ⟨.str_eq rfl, .int_eq rfl, trivial⟩, trivial⟩, ih6 _ _ h rfl⟩
      · replace h := F_var hb13 h
        refine splitB_f ?_
        refine splitB_f ?_
        obtain ⟨c14, hx15, h⟩ := bind_some h
        refine ⟨sidx_bd hx15, c14, sidx_at hx15, ?_⟩
        refine splitB_f ?_
        refine splitB_t ?_
        refine splitB_f ?_
        refine splitB_t ?_
        refine splitB.mk (fun hb16 => ?_) (fun hb16 => ?_)
        · replace h := T_beq hb16 h
          refine splitB_t ?_
          refine splitB_t ?_
          refine splitB_t ?_
          refine splitB_t ?_
          refine splitB_t ?_
          refine splitB_t ?_
          refine splitB_t ?_
          exact ⟨[(0, .str a0), (3, .int .i64 (W64 (y5 + 1)))], [], ⟨[], by decide, (show 0 ≤ 0 by decide), ⟨.str_eq rfl, .int_eq rfl, trivial⟩, trivial⟩, ih6 _ _ h rfl⟩
        · replace h := F_beq hb16 h
          refine splitB_f ?_
          refine splitB_f ?_
          refine splitB.mk (fun hb17 => ?_) (fun hb17 => ?_)
          · replace h := T_dec hb17 h
            refine splitB_t ?_
            refine splitB_t ?_
            obtain ⟨c18, hx19, h⟩ := bind_some h
            refine ⟨sidx_bd hx19, c18, sidx_at hx19, ?_⟩
            refine splitB_t ?_
            obtain ⟨v20, hv21, h⟩ := bind_some h
            refine ⟨_, ACall.pure0 (ok68 hv21) _ rfl (fun _ => rfl), ?_⟩
            rintro _ _ ⟨rfl, rfl⟩
            refine splitB_f ?_
            refine splitB_t ?_
            refine splitB_t ?_
            refine splitB_f ?_
            refine splitB_t ?_
            refine splitB.mk (fun hb22 => ?_) (fun hb22 => ?_)
            · replace h := T_var hb22 h
              exact ⟨[(0, .str a0), (3, .int .i64 (W64 (y5 + 1)))], [], ⟨[], by decide, (show 0 ≤ 0 by decide), ⟨.str_eq rfl, .int_eq rfl, trivial⟩, trivial⟩, ih6 _ _ h rfl⟩
            · replace h := F_var hb22 h
              exact ⟨[(3, .int .i64 y5)], [], ⟨[], by decide, (show 0 ≤ 0 by decide), ⟨.int_eq rfl, trivial⟩, trivial⟩, y5, Option.some.inj h, rfl, rfl⟩
          · replace h := F_dec hb17 h
            refine splitB_f ?_
            refine splitB_f ?_
            refine splitB_f ?_
            refine splitB_f ?_
            refine splitB_f ?_
            refine splitB_t ?_
            refine splitB_f ?_
            refine splitB_t ?_
            refine splitB_f ?_
            exact ⟨[(3, .int .i64 y5)], [], ⟨[], by decide, (show 0 ≤ 0 by decide), ⟨.int_eq rfl, trivial⟩, trivial⟩, y5, Option.some.inj h, rfl, rfl⟩
    · replace h := F_dec hb8 h
      refine splitB_f ?_
      refine splitB_f ?_
      refine splitB_f ?_
      refine splitB_f ?_
      refine splitB_f ?_
      refine splitB_f ?_
      refine splitB_f ?_
      refine splitB_f ?_
      refine splitB_f ?_
      exact ⟨[(3, .int .i64 y5)], [], ⟨[], by decide, (show 0 ≤ 0 by decide), ⟨.int_eq rfl, trivial⟩, trivial⟩, y5, Option.some.inj h, rfl, rfl⟩
  · rintro _ _ ⟨y1, rfl, rfl, rfl⟩
    replace h := hk4
    refine .direct ?_
    obtain rfl := Option.some.inj h
    exact ⟨[], .int .i64 y1, [], by decide, (show 0 ≤ 0 by decide), .int_eq rfl, trivial, rfl, rfl⟩
def m107 (a0 : TL1Cur) : Option (Str × TL1Cur) :=
  m39 a0 ([[], [97], [98], [120, 49], [48], [53], [45, 53], [48, 53], [45, 48], [49, 50, 97], [48, 48, 55], [49, 48, 48, 48, 48, 48, 48, 48, 48, 48], [49, 48, 48, 48, 48, 48, 48, 48, 48, 49], [32, 49], [105, 116, 39, 115], [10], [60, 105, 62], [255, 59], [110, 97, 109, 101], [115, 58, 49, 58]] : List Str) >>= fun (v1, v2) =>
  some (v1, v2)
theorem ok107 {a0 : TL1Cur} {r : Str × TL1Cur} {g1000 : Nat} (h : m107 a0 = some r) : ACall Tryd.prog 107 [.optr 0 g1000 0 0] [.row g1000 3 1 100 (fun _ => [sl 1 cB a0.fB, .int .i64 a0.fI, .int .i64 a0.fH])] (fun res h => res = .str r.1 ∧ h = [.row g1000 3 1 100 (fun _ => [sl 1 cB r.2.fB, .int .i64 r.2.fI, .int .i64 r.2.fH])]) := by
  refine ACall.of_vc tabT_ok mixed Tryd.func107 rfl (by kernel_rfl) _ _ _ rfl (by kernel_rfl) ?_
  unfold m107 at h
  refine .direct ?_
  refine .direct ?_
  refine ⟨row cS ([[], [97], [98], [120, 49], [48], [53], [45, 53], [48, 53], [45, 48], [49, 50, 97], [48, 48, 55], [49, 48, 48, 48, 48, 48, 48, 48, 48, 48], [49, 48, 48, 48, 48, 48, 48, 48, 48, 49], [32, 49], [105, 116, 39, 115], [10], [60, 105, 62], [255, 59], [110, 97, 109, 101], [115, 58, 49, 58]] : List Str), row_lit cS ([[], [97], [98], [120, 49], [48], [53], [45, 53], [48, 53], [45, 48], [49, 50, 97], [48, 48, 55], [49, 48, 48, 48, 48, 48, 48, 48, 48, 48], [49, 48, 48, 48, 48, 48, 48, 48, 48, 49], [32, 49], [105, 116, 39, 115], [10], [60, 105, 62], [255, 59], [110, 97, 109, 101], [115, 58, 49, 58]] : List Str) rfl (cll_refl rfl), ?_⟩
  obtain ⟨⟨v1, v2⟩, hv3, h⟩ := bind_some h
  refine ⟨fun res h' => res = .str v1 ∧ h' = [.row g1000 3 1 100 (fun _ => [sl 1 cB v2.fB, .int .i64 v2.fI, .int .i64 v2.fH]), .row 0 1 ([[], [97], [98], [120, 49], [48], [53], [45, 53], [48, 53], [45, 48], [49, 50, 97], [48, 48, 55], [49, 48, 48, 48, 48, 48, 48, 48, 48, 48], [49, 48, 48, 48, 48, 48, 48, 48, 48, 49], [32, 49], [105, 116, 39, 115], [10], [60, 105, 62], [255, 59], [110, 97, 109, 101], [115, 58, 49, 58]] : List Str).length 9 (row cS ([[], [97], [98], [120, 49], [48], [53], [45, 53], [48, 53], [45, 48], [49, 50, 97], [48, 48, 55], [49, 48, 48, 48, 48, 48, 48, 48, 48, 48], [49, 48, 48, 48, 48, 48, 48, 48, 48, 49], [32, 49], [105, 116, 39, 115], [10], [60, 105, 62], [255, 59], [110, 97, 109, 101], [115, 58, 49, 58]] : List Str))], (ACall.over (ok39 (g1000 := g1000) (g1001 := 0) hv3) [0, 1] [.row g1000 3 1 100 (fun _ => [sl 1 cB a0.fB, .int .i64 a0.fI, .int .i64 a0.fH]), .row 0 1 ([[], [97], [98], [120, 49], [48], [53], [45, 53], [48, 53], [45, 48], [49, 50, 97], [48, 48, 55], [49, 48, 48, 48, 48, 48, 48, 48, 48, 48], [49, 48, 48, 48, 48, 48, 48, 48, 48, 49], [32, 49], [105, 116, 39, 115], [10], [60, 105, 62], [255, 59], [110, 97, 109, 101], [115, 58, 49, 58]] : List Str).length 9 (row cS ([[], [97], [98], [120, 49], [48], [53], [45, 53], [48, 53], [45, 48], [49, 50, 97], [48, 48, 55], [49, 48, 48, 48, 48, 48, 48, 48, 48, 48], [49, 48, 48, 48, 48, 48, 48, 48, 48, 49], [32, 49], [105, 116, 39, 115], [10], [60, 105, 62], [255, 59], [110, 97, 109, 101], [115, 58, 49, 58]] : List Str))] rfl (by decide) (by simp) (by intro j o hj; exact match j, hj with | 0, hj => by cases hj; rfl | 1, hj => by cases hj; exact (congrArg some (renO_row cS_pure _ _ _ _ _ _)).symm | j + 2, hj => by cases hj) rfl).mono (by rintro _ _ ⟨_, _, ⟨rfl, rfl⟩, rfl, rfl⟩; exact ⟨rfl, (by simp only [nxtL, putSel, List.map_cons, List.map_nil, List.drop, List.length_cons, List.length_nil, renO_row cS_pure]; rfl)⟩), ?_⟩
  rintro _ _ ⟨rfl, rfl⟩
  obtain rfl := Option.some.inj h
  exact ⟨[0], .str v1, [.row g1000 3 1 100 (fun _ => [sl 1 cB v2.fB, .int .i64 v2.fI, .int .i64 v2.fH])], by decide, (show 1 ≤ 1 by decide), .str_eq rfl, ⟨⟨fun _ => ⟨rfl, rfl⟩, rfl, rfl, rfl, fun _ _ => ⟨.slc_eq rfl (fun _ _ => rfl), .int_eq rfl, .int_eq rfl, trivial⟩⟩, trivial⟩, rfl, rfl⟩
def m47 (a0 : TL1Cur) : Option (TKey × TL1Cur) :=
  m37 a0 3 >>= fun (v1, v2) =>
  (if v1 = true then
    m39 v2 ([[97], [98], [99], [], [48, 53], [120]] : List Str) >>= fun (v5, v6) =>
    some ((TKey.mk true 0 v5), v6)
  else
    m85 v2 ([0, 1, 2, 3, 4, (-1), 7, 1000000000, (-1000000000)] : List Int) >>= fun (v8, v9) =>
    some ((TKey.mk false v8 []), v9))
theorem ok47 {a0 : TL1Cur} {r : TKey × TL1Cur} {g1000 : Nat} (h : m47 a0 = some r) : ACall Tryd.prog 47 [.optr 0 g1000 0 0] [.row g1000 3 1 100 (fun _ => [sl 1 cB a0.fB, .int .i64 a0.fI, .int .i64 a0.fH])] (fun res h => res = .agg [.bool r.1.fText, .int .i64 r.1.fNum, .str r.1.fStr] ∧ h = [.row g1000 3 1 100 (fun _ => [sl 1 cB r.2.fB, .int .i64 r.2.fI, .int .i64 r.2.fH])]) := by
  refine ACall.of_vc tabT_ok mixed Tryd.func47 rfl (by kernel_rfl) _ _ _ rfl (by kernel_rfl) ?_
  unfold m47 at h
  refine .direct ?_
  refine .direct ?_
  refine .direct ?_
  obtain ⟨⟨v1, v2⟩, hv3, h⟩ := bind_some h
  refine ⟨fun res h' => res = .bool v1 ∧ h' = [.row g1000 3 1 100 (fun _ => [sl 1 cB v2.fB, .int .i64 v2.fI, .int .i64 v2.fH]), .row 0 3 1 44 (fun _ => [.bool false, .int .i64 0, .str []])], (ACall.over (ok37 (g1000 := g1000) hv3) [0] [.row g1000 3 1 100 (fun _ => [sl 1 cB a0.fB, .int .i64 a0.fI, .int .i64 a0.fH]), .row 0 3 1 44 (fun _ => [.bool false, .int .i64 0, .str []])] rfl (by decide) (by simp) (by intro j o hj; exact match j, hj with | 0, hj => by cases hj; rfl | j + 1, hj => by cases hj) rfl).mono (by rintro _ _ ⟨_, _, ⟨rfl, rfl⟩, rfl, rfl⟩; exact ⟨rfl, rfl⟩), ?_⟩
  rintro _ _ ⟨rfl, rfl⟩
  refine splitB.mk (fun hb4 => ?_) (fun hb4 => ?_)
  · replace h := T_var hb4 h
    refine .direct ?_
    refine ⟨row cS ([[97], [98], [99], [], [48, 53], [120]] : List Str), row_lit cS ([[97], [98], [99], [], [48, 53], [120]] : List Str) rfl (cll_refl rfl), ?_⟩
    obtain ⟨⟨v5, v6⟩, hv7, h⟩ := bind_some h
    refine ⟨fun res h' => res = .str v5 ∧ h' = [.row g1000 3 1 100 (fun _ => [sl 1 cB v6.fB, .int .i64 v6.fI, .int .i64 v6.fH]), .row 0 3 1 44 (fun _ => [.bool false, .int .i64 0, .str []]), .row 0 1 ([[97], [98], [99], [], [48, 53], [120]] : List Str).length 9 (row cS ([[97], [98], [99], [], [48, 53], [120]] : List Str))], (ACall.over (ok39 (g1000 := g1000) (g1001 := 0) hv7) [0, 2] [.row g1000 3 1 100 (fun _ => [sl 1 cB v2.fB, .int .i64 v2.fI, .int .i64 v2.fH]), .row 0 3 1 44 (fun _ => [.bool false, .int .i64 0, .str []]), .row 0 1 ([[97], [98], [99], [], [48, 53], [120]] : List Str).length 9 (row cS ([[97], [98], [99], [], [48, 53], [120]] : List Str))] rfl (by decide) (by simp) (by intro j o hj; exact match j, hj with | 0, hj => by cases hj; rfl | 1, hj => by cases hj; exact (congrArg some (renO_row cS_pure _ _ _ _ _ _)).symm | j + 2, hj => by cases hj) rfl).mono (by rintro _ _ ⟨_, _, ⟨rfl, rfl⟩, rfl, rfl⟩; exact ⟨rfl, (by simp only [nxtL, putSel, List.map_cons, List.map_nil, List.drop, List.length_cons, List.length_nil, renO_row cS_pure]; rfl)⟩), ?_⟩
    rintro _ _ ⟨rfl, rfl⟩
    refine ⟨rfl, _, fun _ => [.bool true, .int .i64 0, .str v5], rfl, one_set rfl, ?_⟩
    obtain rfl := Option.some.inj h
    refine ⟨rfl, _, rfl, ?_⟩
    exact ⟨[0], .agg [.bool ((TKey.mk true 0 v5).fText), .int .i64 ((TKey.mk true 0 v5).fNum), .str ((TKey.mk true 0 v5).fStr)], [.row g1000 3 1 100 (fun _ => [sl 1 cB v6.fB, .int .i64 v6.fI, .int .i64 v6.fH])], by decide, (show 1 ≤ 1 by decide), .agg_l ⟨.bool_eq rfl, .int_eq rfl, .str_eq rfl, trivial⟩, ⟨⟨fun _ => ⟨rfl, rfl⟩, rfl, rfl, rfl, fun _ _ => ⟨.slc_eq rfl (fun _ _ => rfl), .int_eq rfl, .int_eq rfl, trivial⟩⟩, trivial⟩, rfl, rfl⟩
  · replace h := F_var hb4 h
    refine .direct ?_
    refine ⟨row cI ([0, 1, 2, 3, 4, (-1), 7, 1000000000, (-1000000000)] : List Int), row_lit cI ([0, 1, 2, 3, 4, (-1), 7, 1000000000, (-1000000000)] : List Int) rfl (cll_refl rfl), ?_⟩
    obtain ⟨⟨v8, v9⟩, hv10, h⟩ := bind_some h
    refine ⟨fun res h' => res = .int .i64 v8 ∧ h' = [.row g1000 3 1 100 (fun _ => [sl 1 cB v9.fB, .int .i64 v9.fI, .int .i64 v9.fH]), .row 0 3 1 44 (fun _ => [.bool false, .int .i64 0, .str []]), .row 0 1 ([0, 1, 2, 3, 4, (-1), 7, 1000000000, (-1000000000)] : List Int).length 3 (row cI ([0, 1, 2, 3, 4, (-1), 7, 1000000000, (-1000000000)] : List Int))], (ACall.over (ok85 (g1000 := g1000) (g1001 := 0) hv10) [0, 2] [.row g1000 3 1 100 (fun _ => [sl 1 cB v2.fB, .int .i64 v2.fI, .int .i64 v2.fH]), .row 0 3 1 44 (fun _ => [.bool false, .int .i64 0, .str []]), .row 0 1 ([0, 1, 2, 3, 4, (-1), 7, 1000000000, (-1000000000)] : List Int).length 3 (row cI ([0, 1, 2, 3, 4, (-1), 7, 1000000000, (-1000000000)] : List Int))] rfl (by decide) (by simp) (by intro j o hj; exact match j, hj with | 0, hj => by cases hj; rfl | 1, hj => by cases hj; exact (congrArg some (renO_row cI_pure _ _ _ _ _ _)).symm | j + 2, hj => by cases hj) rfl).mono (by rintro _ _ ⟨_, _, ⟨rfl, rfl⟩, rfl, rfl⟩; exact ⟨rfl, (by simp only [nxtL, putSel, List.map_cons, List.map_nil, List.drop, List.length_cons, List.length_nil, renO_row cI_pure]; rfl)⟩), ?_⟩
    rintro _ _ ⟨rfl, rfl⟩
    refine ⟨rfl, _, fun _ => [.bool false, .int .i64 v8, .str []], rfl, one_set rfl, ?_⟩
    obtain rfl := Option.some.inj h
    refine ⟨rfl, _, rfl, ?_⟩
    exact ⟨[0], .agg [.bool ((TKey.mk false v8 []).fText), .int .i64 ((TKey.mk false v8 []).fNum), .str ((TKey.mk false v8 []).fStr)], [.row g1000 3 1 100 (fun _ => [sl 1 cB v9.fB, .int .i64 v9.fI, .int .i64 v9.fH])], by decide, (show 1 ≤ 1 by decide), .agg_l ⟨.bool_eq rfl, .int_eq rfl, .str_eq rfl, trivial⟩, ⟨⟨fun _ => ⟨rfl, rfl⟩, rfl, rfl, rfl, fun _ _ => ⟨.slc_eq rfl (fun _ _ => rfl), .int_eq rfl, .int_eq rfl, trivial⟩⟩, trivial⟩, rfl, rfl⟩
def m48 (a0 : TL1Cur) : Option (Int × TL1Cur) :=
  m85 a0 ([(-1), 0, 1, 2, 255, 256, 65535, 2147483647, 2147483648, 4294967295, 4294967296, (-2147483648), 9223372036854775807, (-9223372036854775808)] : List Int) >>= fun (v1, v2) =>
  some (v1, v2)
theorem ok48 {a0 : TL1Cur} {r : Int × TL1Cur} {g1000 : Nat} (h : m48 a0 = some r) : ACall Tryd.prog 48 [.optr 0 g1000 0 0] [.row g1000 3 1 100 (fun _ => [sl 1 cB a0.fB, .int .i64 a0.fI, .int .i64 a0.fH])] (fun res h => res = .int .i64 r.1 ∧ h = [.row g1000 3 1 100 (fun _ => [sl 1 cB r.2.fB, .int .i64 r.2.fI, .int .i64 r.2.fH])]) := by
  refine ACall.of_vc tabT_ok mixed Tryd.func48 rfl (by kernel_rfl) _ _ _ rfl (by kernel_rfl) ?_
  unfold m48 at h
  refine .direct ?_
  refine .direct ?_
  refine ⟨row cI ([(-1), 0, 1, 2, 255, 256, 65535, 2147483647, 2147483648, 4294967295, 4294967296, (-2147483648), 9223372036854775807, (-9223372036854775808)] : List Int), row_lit cI ([(-1), 0, 1, 2, 255, 256, 65535, 2147483647, 2147483648, 4294967295, 4294967296, (-2147483648), 9223372036854775807, (-9223372036854775808)] : List Int) rfl (cll_refl rfl), ?_⟩
  obtain ⟨⟨v1, v2⟩, hv3, h⟩ := bind_some h
  refine ⟨fun res h' => res = .int .i64 v1 ∧ h' = [.row g1000 3 1 100 (fun _ => [sl 1 cB v2.fB, .int .i64 v2.fI, .int .i64 v2.fH]), .row 0 1 ([(-1), 0, 1, 2, 255, 256, 65535, 2147483647, 2147483648, 4294967295, 4294967296, (-2147483648), 9223372036854775807, (-9223372036854775808)] : List Int).length 3 (row cI ([(-1), 0, 1, 2, 255, 256, 65535, 2147483647, 2147483648, 4294967295, 4294967296, (-2147483648), 9223372036854775807, (-9223372036854775808)] : List Int))], (ACall.over (ok85 (g1000 := g1000) (g1001 := 0) hv3) [0, 1] [.row g1000 3 1 100 (fun _ => [sl 1 cB a0.fB, .int .i64 a0.fI, .int .i64 a0.fH]), .row 0 1 ([(-1), 0, 1, 2, 255, 256, 65535, 2147483647, 2147483648, 4294967295, 4294967296, (-2147483648), 9223372036854775807, (-9223372036854775808)] : List Int).length 3 (row cI ([(-1), 0, 1, 2, 255, 256, 65535, 2147483647, 2147483648, 4294967295, 4294967296, (-2147483648), 9223372036854775807, (-9223372036854775808)] : List Int))] rfl (by decide) (by simp) (by intro j o hj; exact match j, hj with | 0, hj => by cases hj; rfl | 1, hj => by cases hj; exact (congrArg some (renO_row cI_pure _ _ _ _ _ _)).symm | j + 2, hj => by cases hj) rfl).mono (by rintro _ _ ⟨_, _, ⟨rfl, rfl⟩, rfl, rfl⟩; exact ⟨rfl, (by simp only [nxtL, putSel, List.map_cons, List.map_nil, List.drop, List.length_cons, List.length_nil, renO_row cI_pure]; rfl)⟩), ?_⟩
  rintro _ _ ⟨rfl, rfl⟩
  obtain rfl := Option.some.inj h
  exact ⟨[0], .int .i64 v1, [.row g1000 3 1 100 (fun _ => [sl 1 cB v2.fB, .int .i64 v2.fI, .int .i64 v2.fH])], by decide, (show 1 ≤ 1 by decide), .int_eq rfl, ⟨⟨fun _ => ⟨rfl, rfl⟩, rfl, rfl, rfl, fun _ _ => ⟨.slc_eq rfl (fun _ _ => rfl), .int_eq rfl, .int_eq rfl, trivial⟩⟩, trivial⟩, rfl, rfl⟩
def m56 (a0 : TValue) (a1 : TKey) (a2 : TValue) : Option (TValue) :=
  m27 a0 a1 >>= fun v1 =>
  (if v1 ≥ 0 then
    idx a0.fItems v1 >>= fun x4 =>
    some (TValue.mk a0.fKind a0.fNum a0.fStr a0.fNext (a0.fItems.set v1.toNat (TEntry.mk x4.fKey a2)))
  else
    (
      lapp 96 a0.fItems ([(TEntry.mk (TKey.mk false 0 []) (TValue.mk 0 0 [] 0 []))] : List TEntry) >>= fun l10 =>
      idx l10 (a0.fItems.length : Int) >>= fun x12 =>
      some (l10.set ((a0.fItems.length : Int).toNat) (TEntry.mk a1 a2))
     : Option ((List TEntry))) >>= fun l6 =>
    (if a1.fText = true then
      some (TValue.mk a0.fKind a0.fNum a0.fStr a0.fNext l6)
    else
      m93 a0.fNext (W64 (a1.fNum + 1)) >>= fun v15 =>
      some (TValue.mk a0.fKind a0.fNum a0.fStr v15 l6)))
theorem ok56 {a0 : TValue} {a1 : TKey} {a2 : TValue} {r : TValue} {g1000 : Nat} {g1001 : Nat} (h : m56 a0 a1 a2 = some r) : ACall Tryd.prog 56 [.optr 0 g1000 0 0, .agg [.bool a1.fText, .int .i64 a1.fNum, .str a1.fStr], .agg [.int .i64 a2.fKind, .int .i64 a2.fNum, .str a2.fStr, .int .i64 a2.fNext, sl 8 TEntry.cells a2.fItems]] [.row g1000 5 1 40 (fun _ => [.int .i64 a0.fKind, .int .i64 a0.fNum, .str a0.fStr, .int .i64 a0.fNext, .own 1 g1001 0 a0.fItems.length]), .row g1001 8 a0.fItems.length 55 (row TEntry.cells a0.fItems)] (fun res h => ∃ G1 : Nat, res = .tup [] ∧ h = [.row g1000 5 1 40 (fun _ => [.int .i64 r.fKind, .int .i64 r.fNum, .str r.fStr, .int .i64 r.fNext, .own 1 G1 0 r.fItems.length]), .row G1 8 r.fItems.length 55 (row TEntry.cells r.fItems)]) := by
  refine ACall.of_vc tabT_ok mixed Tryd.func56 rfl (by kernel_rfl) _ _ _ rfl (by kernel_rfl) ?_
  unfold m56 at h
  refine .direct ?_
  refine .direct ?_
  refine .float [(0, true), (1, true), (2, true), (3, true), (4, false), (5, true)] (by kernel_rfl) ?_
  refine ⟨rfl, ?_⟩
  refine ⟨rfl, _, rfl, ?_⟩
  refine ⟨rfl, _, rfl, ?_⟩
  obtain ⟨v1, hv2, h⟩ := bind_some h
  refine ⟨_, ACall.snap0 (args := [.agg [.int .i64 a0.fKind, .int .i64 a0.fNum, .str a0.fStr, .int .i64 a0.fNext, .own 1 g1001 0 a0.fItems.length], .agg [.bool a1.fText, .int .i64 a1.fNum, .str a1.fStr]]) (ok27 hv2) [.row g1000 5 1 40 (fun _ => [.int .i64 a0.fKind, .int .i64 a0.fNum, .str a0.fStr, .int .i64 a0.fNext, .own 1 g1001 0 a0.fItems.length]), .row g1001 8 a0.fItems.length 55 (row TEntry.cells a0.fItems), .row 0 3 1 44 (fun _ => [.bool a1.fText, .int .i64 a1.fNum, .str a1.fStr]), .row 0 5 1 40 (fun _ => [.int .i64 a2.fKind, .int .i64 a2.fNum, .str a2.fStr, .int .i64 a2.fNext, sl 8 TEntry.cells a2.fItems])] ⟨.agg_l ⟨.int_eq rfl, .int_eq rfl, .str_eq rfl, .int_eq rfl, (fz_snap TEntry.cells_pure rfl shows_all), trivial⟩, .agg_l ⟨.bool_eq rfl, .int_eq rfl, .str_eq rfl, trivial⟩, trivial⟩ rfl rfl (fun _ => rfl), ?_⟩
  rintro _ _ ⟨rfl, rfl⟩
  refine .direct ?_
  refine .direct ?_
  refine splitB.mk (fun hb3 => ?_) (fun hb3 => ?_)
  · replace h := T_dec hb3 h
    refine .direct ?_
    refine .float [(0, true), (1, true), (2, true), (3, true), (4, true), (5, true), (6, true), (7, true), (8, false)] (by kernel_rfl) ?_
    refine ⟨rfl, ?_⟩
    refine ⟨rfl, ?_⟩
    refine ⟨rfl, _, rfl, ?_⟩
    refine ⟨rfl, _, rfl, ?_⟩
    obtain ⟨x4, hx5, h⟩ := bind_some h
    refine ⟨rfl, idx_bd hx5, _, Nat.zero_add _, ?_⟩
    refine ⟨rfl, ?_⟩
    refine ⟨rfl, _, row TEntry.cells (a0.fItems.set v1.toNat (TEntry.mk x4.fKey a2)), ((idx_row hx5).trans (TEntry.cells_eq x4)), row_set (idx_lt hx5) (TEntry.cells_eq (TEntry.mk x4.fKey a2)) ⟨.same _, .same _, .same _, .same _, .same _, .same _, .same _, .same _, trivial⟩, ?_⟩
    obtain rfl := Option.some.inj h
    exact ⟨[0, 1], .tup [], [.row g1000 5 1 40 (fun _ => [.int .i64 ((TValue.mk a0.fKind a0.fNum a0.fStr a0.fNext (a0.fItems.set v1.toNat (TEntry.mk x4.fKey a2))).fKind), .int .i64 ((TValue.mk a0.fKind a0.fNum a0.fStr a0.fNext (a0.fItems.set v1.toNat (TEntry.mk x4.fKey a2))).fNum), .str ((TValue.mk a0.fKind a0.fNum a0.fStr a0.fNext (a0.fItems.set v1.toNat (TEntry.mk x4.fKey a2))).fStr), .int .i64 ((TValue.mk a0.fKind a0.fNum a0.fStr a0.fNext (a0.fItems.set v1.toNat (TEntry.mk x4.fKey a2))).fNext), .own 1 g1001 0 ((TValue.mk a0.fKind a0.fNum a0.fStr a0.fNext (a0.fItems.set v1.toNat (TEntry.mk x4.fKey a2))).fItems).length]), .row g1001 8 ((TValue.mk a0.fKind a0.fNum a0.fStr a0.fNext (a0.fItems.set v1.toNat (TEntry.mk x4.fKey a2))).fItems).length 55 (row TEntry.cells ((TValue.mk a0.fKind a0.fNum a0.fStr a0.fNext (a0.fItems.set v1.toNat (TEntry.mk x4.fKey a2))).fItems))], by decide, (show 2 ≤ 2 by decide), (.tup_l trivial), ⟨⟨fun _ => ⟨rfl, rfl⟩, rfl, rfl, rfl, fun _ _ => ⟨.int_eq rfl, .int_eq rfl, .str_eq rfl, .int_eq rfl, .own_eq rfl ⟨_, _, _, _, rfl⟩ ⟨_, _, _, _, rfl⟩ rfl (by simp), trivial⟩⟩, ⟨fun _ => ⟨rfl, rfl⟩, rfl, (by simp), rfl, fz_row TEntry.cells_pure⟩, trivial⟩, g1001, rfl, rfl⟩
  · replace h := F_dec hb3 h
    obtain ⟨o7, ho8, hk9⟩ := bind_some h
    replace h := ho8
    refine .cut (fun σ η => ∃ l6, l6 = o7 ∧ σ = [(0, .optr 0 g1000 0 0), (4, .optr 2 0 0 0)] ∧ η = [.row g1000 5 1 40 (fun _ => [.int .i64 a0.fKind, .int .i64 a0.fNum, .str a0.fStr, .int .i64 a0.fNext, .own 1 (g1001 + 1) 0 l6.length]), .row (g1001 + 1) 8 l6.length 55 (row TEntry.cells l6), .row 0 3 1 44 (fun _ => [.bool a1.fText, .int .i64 a1.fNum, .str a1.fStr])]) ?_ ?_
    · refine .float2 [(0, true), (1, true), (2, true), (3, true), (4, true), (5, true), (6, true), (7, true), (8, false), (9, false), (10, true), (12, true), (13, true)] 11 14 (by kernel_rfl) ?_
      refine ⟨rfl, ?_⟩
      refine ⟨rfl, ?_⟩
      refine ⟨rfl, _, rfl, ?_⟩
      refine ⟨rfl, _, rfl, ?_⟩
      refine ⟨rfl, _, rfl, ?_⟩
      refine ⟨rfl, ?_⟩
      refine ⟨row TEntry.cells ([(TEntry.mk (TKey.mk false 0 []) (TValue.mk 0 0 [] 0 []))] : List TEntry), row_lit TEntry.cells ([(TEntry.mk (TKey.mk false 0 []) (TValue.mk 0 0 [] 0 []))] : List TEntry) rfl (cll_cons (TEntry.cells_eq _) ⟨.same _, .same _, .same _, .same _, .same _, .same _, .same _, .nil _ _, trivial⟩ trivial), ?_⟩
      refine ⟨rfl, ?_⟩
      refine ⟨rfl, ?_⟩
      refine ⟨rfl, ?_⟩
      refine ⟨rfl, ?_⟩
      refine ⟨rfl, ?_⟩
      refine ⟨rfl, ?_⟩
      obtain ⟨l10, hx11, h⟩ := bind_some h
      refine ⟨rfl, rfl, lapp_bd hx11, l10.length, row TEntry.cells l10, lapp_len hx11, lapp_row hx11 shows_all (src_own shows_all), ?_⟩
      obtain ⟨x12, hx13, h⟩ := bind_some h
      refine ⟨rfl, idx_bd hx13, _, Nat.zero_add _, ?_⟩
      refine ⟨rfl, ?_⟩
      refine ⟨rfl, ?_⟩
      refine ⟨?_, ?_⟩
      · refine ⟨rfl, _, row TEntry.cells (l10.set ((a0.fItems.length : Int).toNat) (TEntry.mk a1 a2)), ((idx_row hx13).trans (TEntry.cells_eq x12)), row_set (idx_lt hx13) (TEntry.cells_eq (TEntry.mk a1 a2)) ⟨.same _, .same _, .same _, .same _, .same _, .same _, .same _, .same _, trivial⟩, ?_⟩
        refine ⟨rfl, ?_⟩
        refine ⟨rfl, ?_⟩
        refine ⟨rfl, _, fun _ => [.int .i64 a0.fKind, .int .i64 a0.fNum, .str a0.fStr, .int .i64 a0.fNext, .own 1 (g1001 + 1) 0 l10.length], rfl, one_set rfl, ?_⟩
        refine ⟨rfl, ?_⟩
        exact ⟨[(0, .optr 0 g1000 0 0), (4, .optr 2 0 0 0)], [.row g1000 5 1 40 (fun _ => [.int .i64 a0.fKind, .int .i64 a0.fNum, .str a0.fStr, .int .i64 a0.fNext, .own 1 (g1001 + 1) 0 (l10.set ((a0.fItems.length : Int).toNat) (TEntry.mk a1 a2)).length]), .row (g1001 + 1) 8 (l10.set ((a0.fItems.length : Int).toNat) (TEntry.mk a1 a2)).length 55 (row TEntry.cells (l10.set ((a0.fItems.length : Int).toNat) (TEntry.mk a1 a2))), .row 0 3 1 44 (fun _ => [.bool a1.fText, .int .i64 a1.fNum, .str a1.fStr])], ⟨[0, 1, 2], by decide, (show 2 ≤ 3 by decide), ⟨.optr_eq rfl ⟨_, _, _, _, rfl⟩ ⟨_, _, _, _, rfl⟩ rfl rfl, .optr_eq rfl ⟨_, _, _, _, rfl⟩ ⟨_, _, _, _, rfl⟩ rfl rfl, trivial⟩, ⟨⟨fun _ => ⟨rfl, rfl⟩, rfl, rfl, rfl, fun _ _ => ⟨.int_eq rfl, .int_eq rfl, .str_eq rfl, .int_eq rfl, .own_eq rfl ⟨_, _, _, _, rfl⟩ ⟨_, _, _, _, rfl⟩ rfl (by simp), trivial⟩⟩, ⟨fun _ => ⟨rfl, rfl⟩, rfl, (by simp), rfl, fz_row TEntry.cells_pure⟩, ⟨fun h0 => absurd (show 2 < 2 from h0) (by decide), rfl, rfl, rfl, fun _ _ => ⟨.bool_eq rfl, .int_eq rfl, .str_eq rfl, trivial⟩⟩, trivial⟩⟩, (l10.set ((a0.fItems.length : Int).toNat) (TEntry.mk a1 a2)), Option.some.inj h, rfl, rfl⟩
      · refine ⟨rfl, _, fun _ => [.int .i64 a0.fKind, .int .i64 a0.fNum, .str a0.fStr, .int .i64 a0.fNext, .own 1 (g1001 + 1) 0 l10.length], rfl, one_set rfl, ?_⟩
        refine ⟨rfl, ?_⟩
        refine ⟨rfl, _, row TEntry.cells (l10.set ((a0.fItems.length : Int).toNat) (TEntry.mk a1 a2)), ((idx_row hx13).trans (TEntry.cells_eq x12)), row_set (idx_lt hx13) (TEntry.cells_eq (TEntry.mk a1 a2)) ⟨.same _, .same _, .same _, .same _, .same _, .same _, .same _, .same _, trivial⟩, ?_⟩
        refine ⟨rfl, ?_⟩
        refine ⟨rfl, ?_⟩
        exact ⟨[(0, .optr 0 g1000 0 0), (4, .optr 2 0 0 0)], [.row g1000 5 1 40 (fun _ => [.int .i64 a0.fKind, .int .i64 a0.fNum, .str a0.fStr, .int .i64 a0.fNext, .own 1 (g1001 + 1) 0 (l10.set ((a0.fItems.length : Int).toNat) (TEntry.mk a1 a2)).length]), .row (g1001 + 1) 8 (l10.set ((a0.fItems.length : Int).toNat) (TEntry.mk a1 a2)).length 55 (row TEntry.cells (l10.set ((a0.fItems.length : Int).toNat) (TEntry.mk a1 a2))), .row 0 3 1 44 (fun _ => [.bool a1.fText, .int .i64 a1.fNum, .str a1.fStr])], ⟨[0, 1, 2], by decide, (show 2 ≤ 3 by decide), ⟨.optr_eq rfl ⟨_, _, _, _, rfl⟩ ⟨_, _, _, _, rfl⟩ rfl rfl, .optr_eq rfl ⟨_, _, _, _, rfl⟩ ⟨_, _, _, _, rfl⟩ rfl rfl, trivial⟩, ⟨⟨fun _ => ⟨rfl, rfl⟩, rfl, rfl, rfl, fun _ _ => ⟨.int_eq rfl, .int_eq rfl, .str_eq rfl, .int_eq rfl, .own_eq rfl ⟨_, _, _, _, rfl⟩ ⟨_, _, _, _, rfl⟩ rfl (by simp), trivial⟩⟩, ⟨fun _ => ⟨rfl, rfl⟩, rfl, (by simp), rfl, fz_row TEntry.cells_pure⟩, ⟨fun h0 => absurd (show 2 < 2 from h0) (by decide), rfl, rfl, rfl, fun _ _ => ⟨.bool_eq rfl, .int_eq rfl, .str_eq rfl, trivial⟩⟩, trivial⟩⟩, (l10.set ((a0.fItems.length : Int).toNat) (TEntry.mk a1 a2)), Option.some.inj h, rfl, rfl⟩
    · rintro _ _ ⟨l6, rfl, rfl, rfl⟩
      replace h := hk9
      refine .direct ?_
      refine ⟨rfl, ?_⟩
      refine ⟨rfl, _, rfl, ?_⟩
      refine splitB.mk (fun hb14 => ?_) (fun hb14 => ?_)
      · have hb17 := not_F hb14
        replace h := F_var hb17 h
        refine .float [(0, true), (1, true), (2, true), (3, true), (4, true), (5, true), (6, true), (7, true), (8, false), (9, true), (10, true), (11, false)] (by kernel_rfl) ?_
        refine ⟨rfl, ?_⟩
        refine ⟨rfl, ?_⟩
        refine ⟨rfl, _, rfl, ?_⟩
        refine ⟨rfl, ?_⟩
        refine ⟨rfl, _, rfl, ?_⟩
        obtain ⟨v15, hv16, h⟩ := bind_some h
        refine ⟨_, ACall.pure0 (ok93 hv16) _ rfl (fun _ => rfl), ?_⟩
        rintro _ _ ⟨rfl, rfl⟩
        refine ⟨rfl, ?_⟩
        refine ⟨rfl, ?_⟩
        refine ⟨rfl, _, fun _ => [.int .i64 a0.fKind, .int .i64 a0.fNum, .str a0.fStr, .int .i64 v15, .own 1 (g1001 + 1) 0 l6.length], rfl, one_set rfl, ?_⟩
        obtain rfl := Option.some.inj h
        exact ⟨[0, 1], .tup [], [.row g1000 5 1 40 (fun _ => [.int .i64 ((TValue.mk a0.fKind a0.fNum a0.fStr v15 l6).fKind), .int .i64 ((TValue.mk a0.fKind a0.fNum a0.fStr v15 l6).fNum), .str ((TValue.mk a0.fKind a0.fNum a0.fStr v15 l6).fStr), .int .i64 ((TValue.mk a0.fKind a0.fNum a0.fStr v15 l6).fNext), .own 1 (g1001 + 1) 0 ((TValue.mk a0.fKind a0.fNum a0.fStr v15 l6).fItems).length]), .row (g1001 + 1) 8 ((TValue.mk a0.fKind a0.fNum a0.fStr v15 l6).fItems).length 55 (row TEntry.cells ((TValue.mk a0.fKind a0.fNum a0.fStr v15 l6).fItems))], by decide, (show 2 ≤ 2 by decide), (.tup_l trivial), ⟨⟨fun _ => ⟨rfl, rfl⟩, rfl, rfl, rfl, fun _ _ => ⟨.int_eq rfl, .int_eq rfl, .str_eq rfl, .int_eq rfl, .own_eq rfl ⟨_, _, _, _, rfl⟩ ⟨_, _, _, _, rfl⟩ rfl rfl, trivial⟩⟩, ⟨fun _ => ⟨rfl, rfl⟩, rfl, rfl, rfl, fz_row TEntry.cells_pure⟩, trivial⟩, (g1001 + 1), rfl, rfl⟩
      · have hb17 := not_T hb14
        replace h := T_var hb17 h
        obtain rfl := Option.some.inj h
        exact ⟨[0, 1], .tup [], [.row g1000 5 1 40 (fun _ => [.int .i64 ((TValue.mk a0.fKind a0.fNum a0.fStr a0.fNext l6).fKind), .int .i64 ((TValue.mk a0.fKind a0.fNum a0.fStr a0.fNext l6).fNum), .str ((TValue.mk a0.fKind a0.fNum a0.fStr a0.fNext l6).fStr), .int .i64 ((TValue.mk a0.fKind a0.fNum a0.fStr a0.fNext l6).fNext), .own 1 (g1001 + 1) 0 ((TValue.mk a0.fKind a0.fNum a0.fStr a0.fNext l6).fItems).length]), .row (g1001 + 1) 8 ((TValue.mk a0.fKind a0.fNum a0.fStr a0.fNext l6).fItems).length 55 (row TEntry.cells ((TValue.mk a0.fKind a0.fNum a0.fStr a0.fNext l6).fItems))], by decide, (show 2 ≤ 2 by decide), (.tup_l trivial), ⟨⟨fun _ => ⟨rfl, rfl⟩, rfl, rfl, rfl, fun _ _ => ⟨.int_eq rfl, .int_eq rfl, .str_eq rfl, .int_eq rfl, .own_eq rfl ⟨_, _, _, _, rfl⟩ ⟨_, _, _, _, rfl⟩ rfl rfl, trivial⟩⟩, ⟨fun _ => ⟨rfl, rfl⟩, rfl, rfl, rfl, fz_row TEntry.cells_pure⟩, trivial⟩, (g1001 + 1), rfl, rfl⟩
def m28_L2 (a0 : TValue) (l6 : List TKey) (y7 : Int) : Option ((List TKey)) :=
  (if y7 < (a0.fItems.length : Int) then
    idx a0.fItems y7 >>= fun x11 =>
    lapp 32 l6 ([x11.fKey] : List TKey) >>= fun l13 =>
    m28_L2 a0 l13 (W64 (y7 + 1))
  else
    some l6)
partial_fixpoint
def m28 (a0 : TValue) : Option ((List TKey)) :=
  (
    (if a0.fKind = 4 then
      m28_L2 a0 ([] : List TKey) 0
    else
      some ([] : List TKey))
   : Option ((List TKey))) >>= fun l1 =>
  some l1
theorem ok28 {a0 : TValue} {r : (List TKey)} (h : m28 a0 = some r) : ACall Tryd.prog 28 [.agg [.int .i64 a0.fKind, .int .i64 a0.fNum, .str a0.fStr, .int .i64 a0.fNext, sl 8 TEntry.cells a0.fItems]] [] (fun res h => res = sl 3 TKey.cells r ∧ h = []) := by
  refine ACall.of_vc tabT_ok mixed Tryd.func28 rfl (by kernel_rfl) _ _ _ rfl (by kernel_rfl) ?_
  unfold m28 at h
  refine .direct ?_
  refine .direct ?_
  refine ⟨row TKey.cells ([] : List TKey), row_lit TKey.cells ([] : List TKey) rfl (cll_refl rfl), ?_⟩
  obtain ⟨o2, ho3, hk4⟩ := bind_some h
  replace h := ho3
  refine .cut (fun σ η => ∃ l1, l1 = o2 ∧ σ = [(3, .own 0 0 0 l1.length)] ∧ η = [.row 0 3 l1.length 44 (row TKey.cells l1)]) ?_ ?_
  · refine .direct ?_
    refine ⟨rfl, ?_⟩
    refine ⟨rfl, _, rfl, ?_⟩
    refine splitB.mk (fun hb5 => ?_) (fun hb5 => ?_)
    · replace h := T_beq hb5 h
      refine .direct ?_
      refine ⟨rfl, ?_⟩
      refine ⟨rfl, _, rfl, ?_⟩
      refine LoopAt.enter [(3, .own 0 0 0 ([] : List TKey).length), (11, sl 8 TEntry.cells a0.fItems), (12, .int .i64 (a0.fItems.length : Int)), (13, .int .i64 0)] [.row 0 3 ([] : List TKey).length 44 (row TKey.cells ([] : List TKey))] ⟨[1], by decide, (show 0 ≤ 1 by decide), ⟨.own_eq rfl ⟨_, _, _, _, rfl⟩ ⟨_, _, _, _, rfl⟩ rfl rfl, .slc_eq rfl (fun _ _ => rfl), .int_eq rfl, .int_eq rfl, trivial⟩, ⟨⟨fun h0 => absurd (show 0 < 0 from h0) (by decide), rfl, rfl, rfl, fz_row TKey.cells_pure⟩, trivial⟩⟩ ?_
      refine m28_L2.partial_correctness a0 (motive := fun l6 y7 o15 => o2 = o15 → LoopAt _ _ [(3, .own 0 0 0 l6.length), (11, sl 8 TEntry.cells a0.fItems), (12, .int .i64 (a0.fItems.length : Int)), (13, .int .i64 y7)] [.row 0 3 l6.length 44 (row TKey.cells l6)]) ?_ ([] : List TKey) 0 o2 h rfl
      intro F9 ih8 l6 y7 o15 h hr16
      subst hr16
      refine LoopAt.round ?_
      refine .direct ?_
      refine .direct ?_
      refine splitB.mk (fun hb10 => ?_) (fun hb10 => ?_)
      · replace h := T_dec hb10 h
        refine .direct ?_
        refine .direct ?_
        obtain ⟨x11, hx12, h⟩ := bind_some h
        refine ⟨idx_bd hx12, _, (idx_row hx12).trans (TEntry.cells_eq x11), ?_⟩
        refine ⟨rfl, _, fun _ => [.bool x11.fKey.fText, .int .i64 x11.fKey.fNum, .str x11.fKey.fStr, .int .i64 x11.fVal.fKind, .int .i64 x11.fVal.fNum, .str x11.fVal.fStr, .int .i64 x11.fVal.fNext, sl 8 TEntry.cells x11.fVal.fItems], rfl, one_set rfl, ?_⟩
        refine ⟨rfl, ?_⟩
        refine ⟨rfl, _, rfl, ?_⟩
        refine ⟨row TKey.cells ([x11.fKey] : List TKey), row_lit TKey.cells ([x11.fKey] : List TKey) rfl (cll_refl rfl), ?_⟩
        obtain ⟨l13, hx14, h⟩ := bind_some h
        refine ⟨rfl, rfl, lapp_bd hx14, l13.length, row TKey.cells l13, lapp_len hx14, lapp_row hx14 shows_all (src_own shows_all), ?_⟩
        exact ⟨[(3, .own 0 0 0 l13.length), (11, sl 8 TEntry.cells a0.fItems), (12, .int .i64 (a0.fItems.length : Int)), (13, .int .i64 (W64 (y7 + 1)))], [.row 0 3 l13.length 44 (row TKey.cells l13)], ⟨[0], by decide, (show 0 ≤ 1 by decide), ⟨.own_eq rfl ⟨_, _, _, _, rfl⟩ ⟨_, _, _, _, rfl⟩ rfl rfl, .slc_eq rfl (fun _ _ => rfl), .int_eq rfl, .int_eq rfl, trivial⟩, ⟨⟨fun h0 => absurd (show 0 < 0 from h0) (by decide), rfl, rfl, rfl, fz_row TKey.cells_pure⟩, trivial⟩⟩, ih8 _ _ _ h rfl⟩
      · replace h := F_dec hb10 h
        exact ⟨[(3, .own 0 0 0 l6.length)], [.row 0 3 l6.length 44 (row TKey.cells l6)], ⟨[0], by decide, (show 0 ≤ 1 by decide), ⟨.own_eq rfl ⟨_, _, _, _, rfl⟩ ⟨_, _, _, _, rfl⟩ rfl rfl, trivial⟩, ⟨⟨fun h0 => absurd (show 0 < 0 from h0) (by decide), rfl, rfl, rfl, fz_row TKey.cells_pure⟩, trivial⟩⟩, l6, Option.some.inj h, rfl, rfl⟩
    · replace h := F_beq hb5 h
      exact ⟨[(3, .own 0 0 0 ([] : List TKey).length)], [.row 0 3 ([] : List TKey).length 44 (row TKey.cells ([] : List TKey))], ⟨[1], by decide, (show 0 ≤ 1 by decide), ⟨.own_eq rfl ⟨_, _, _, _, rfl⟩ ⟨_, _, _, _, rfl⟩ rfl rfl, trivial⟩, ⟨⟨fun h0 => absurd (show 0 < 0 from h0) (by decide), rfl, rfl, rfl, fz_row TKey.cells_pure⟩, trivial⟩⟩, ([] : List TKey), Option.some.inj h, rfl, rfl⟩
  · rintro _ _ ⟨l1, rfl, rfl, rfl⟩
    replace h := hk4
    refine .direct ?_
    obtain rfl := Option.some.inj h
    exact ⟨[], sl 3 TKey.cells l1, [], by decide, (show 0 ≤ 0 by decide), (fz_frz TKey.cells_pure (by decide) rfl shows_all), trivial, rfl, rfl⟩
end Go.Am
