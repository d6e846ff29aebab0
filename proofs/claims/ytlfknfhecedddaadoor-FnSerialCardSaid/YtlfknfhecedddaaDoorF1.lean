/- Models of Go functions, and their walks. (Printed by tools/mg.py.) -/
import Derived.Test.YtlfknfhecedddaaDoorTy
set_option linter.unusedVariables false
set_option linter.unusedSimpArgs false
namespace Go.Am
open Go Go.RowKit Go.Proofs

def m53 (a0 : Int) (a1 : Int) (a2 : Int) : Option (Bool) :=
  (if a0 ≥ a1 then
    some (decide (a0 ≤ a2))
  else
    some false)
theorem ok53 {a0 : Int} {a1 : Int} {a2 : Int} {r : Bool} (h : m53 a0 a1 a2 = some r) : ACall Tryd.prog 54 [.int .i64 a0, .int .i64 a1, .int .i64 a2] [] (fun res h => res = .bool r ∧ h = []) := by
  refine ACall.of_vc tabT_ok mixed Tryd.func54 rfl (by kernel_rfl) _ _ _ rfl (by kernel_rfl) ?_
  unfold m53 at h
  refine .direct ?_
  refine .direct ?_
  refine splitB.mk (fun hb1 => ?_) (fun hb1 => ?_)
  · replace h := T_dec hb1 h
    refine splitB_t ?_
    refine splitB_t ?_
    refine splitB_t ?_
    obtain rfl := Option.some.inj h
    exact ⟨[], .bool (decide (a0 ≤ a2)), [], by decide, (show 0 ≤ 0 by decide), .bool_eq rfl, trivial, rfl, rfl⟩
  · replace h := F_dec hb1 h
    refine splitB_f ?_
    refine splitB_f ?_
    refine splitB_f ?_
    obtain rfl := Option.some.inj h
    exact ⟨[], .bool false, [], by decide, (show 0 ≤ 0 by decide), .bool_eq rfl, trivial, rfl, rfl⟩
def m_i_NullValue : Option (TValue) :=
  some (TValue.mk 0 0 [] 0 [])
theorem ok_i_NullValue {r : TValue} (h : m_i_NullValue  = some r) : ACall Tryd.prog 36 [] [] (fun res h => res = .agg [.int .i64 r.fKind, .int .i64 r.fNum, .str r.fStr, .int .i64 r.fNext, sl 8 TEntry.cells r.fItems] ∧ h = []) := by
  refine ACall.of_vc tabT_ok mixed Tryd.func36 rfl (by kernel_rfl) _ _ _ rfl (by kernel_rfl) ?_
  unfold m_i_NullValue at h
  refine .direct ?_
  refine .direct ?_
  refine ⟨rfl, _, fun _ => [.int .i64 0, .int .i64 0, .str [], .int .i64 0, .nils], rfl, one_set rfl, ?_⟩
  obtain rfl := Option.some.inj h
  refine ⟨rfl, _, rfl, ?_⟩
  exact ⟨[], .agg [.int .i64 ((TValue.mk 0 0 [] 0 []).fKind), .int .i64 ((TValue.mk 0 0 [] 0 []).fNum), .str ((TValue.mk 0 0 [] 0 []).fStr), .int .i64 ((TValue.mk 0 0 [] 0 []).fNext), sl 8 TEntry.cells ((TValue.mk 0 0 [] 0 []).fItems)], [], by decide, (show 0 ≤ 0 by decide), .agg_l ⟨.int_eq rfl, .int_eq rfl, .str_eq rfl, .int_eq rfl, fz_nils, trivial⟩, trivial, rfl, rfl⟩
theorem ok_i_NullValuex : ACall Tryd.prog 36 [] [] (fun res h => res = .agg [.int .i64 0, .int .i64 0, .str [], .int .i64 0, .nils] ∧ h = []) := by
  refine ACall.of_vc tabT_ok mixed Tryd.func36 rfl (by kernel_rfl) _ _ _ rfl (by kernel_rfl) ?_
  refine .direct ?_
  refine .direct ?_
  refine ⟨rfl, _, fun _ => [.int .i64 0, .int .i64 0, .str [], .int .i64 0, .nils], rfl, one_set rfl, ?_⟩
  refine ⟨rfl, _, rfl, ?_⟩
  exact ⟨[], .agg [.int .i64 0, .int .i64 0, .str [], .int .i64 0, .nils], [], by decide, (show 0 ≤ 0 by decide), .agg_l ⟨.int_eq rfl, .int_eq rfl, .str_eq rfl, .int_eq rfl, .nils, trivial⟩, trivial, rfl, rfl⟩
def m92 (a0 : Int) (a1 : Int) (a2 : Int) : Option (Bool) :=
  (if a1 ≤ a0 then
    some (decide (a0 ≤ a2))
  else
    some false)
theorem ok92 {a0 : Int} {a1 : Int} {a2 : Int} {r : Bool} (h : m92 a0 a1 a2 = some r) : ACall Tryd.prog 67 [.int .i64 a0, .int .i64 a1, .int .i64 a2] [] (fun res h => res = .bool r ∧ h = []) := by
  refine ACall.of_vc tabT_ok mixed Tryd.func67 rfl (by kernel_rfl) _ _ _ rfl (by kernel_rfl) ?_
  unfold m92 at h
  refine .direct ?_
  refine .direct ?_
  refine splitB.mk (fun hb1 => ?_) (fun hb1 => ?_)
  · replace h := T_dec hb1 h
    refine splitB_t ?_
    refine splitB_t ?_
    refine splitB_t ?_
    obtain rfl := Option.some.inj h
    exact ⟨[], .bool (decide (a0 ≤ a2)), [], by decide, (show 0 ≤ 0 by decide), .bool_eq rfl, trivial, rfl, rfl⟩
  · replace h := F_dec hb1 h
    refine splitB_f ?_
    refine splitB_f ?_
    refine splitB_f ?_
    obtain rfl := Option.some.inj h
    exact ⟨[], .bool false, [], by decide, (show 0 ≤ 0 by decide), .bool_eq rfl, trivial, rfl, rfl⟩
def m_i_intKey (a0 : Int) : Option (TKey) :=
  some (TKey.mk false a0 [])
theorem ok_i_intKey {a0 : Int} {r : TKey} (h : m_i_intKey a0 = some r) : ACall Tryd.prog 78 [.int .i64 a0] [] (fun res h => res = .agg [.bool r.fText, .int .i64 r.fNum, .str r.fStr] ∧ h = []) := by
  refine ACall.of_vc tabT_ok mixed Tryd.func78 rfl (by kernel_rfl) _ _ _ rfl (by kernel_rfl) ?_
  unfold m_i_intKey at h
  refine .direct ?_
  refine .direct ?_
  refine ⟨rfl, _, fun _ => [.bool false, .int .i64 a0, .str []], rfl, one_set rfl, ?_⟩
  obtain rfl := Option.some.inj h
  refine ⟨rfl, _, rfl, ?_⟩
  exact ⟨[], .agg [.bool ((TKey.mk false a0 []).fText), .int .i64 ((TKey.mk false a0 []).fNum), .str ((TKey.mk false a0 []).fStr)], [], by decide, (show 0 ≤ 0 by decide), .agg_l ⟨.bool_eq rfl, .int_eq rfl, .str_eq rfl, trivial⟩, trivial, rfl, rfl⟩
theorem ok_i_intKeyx (a0 : Int) : ACall Tryd.prog 78 [.int .i64 a0] [] (fun res h => res = .agg [.bool false, .int .i64 a0, .str []] ∧ h = []) := by
  refine ACall.of_vc tabT_ok mixed Tryd.func78 rfl (by kernel_rfl) _ _ _ rfl (by kernel_rfl) ?_
  refine .direct ?_
  refine .direct ?_
  refine ⟨rfl, _, fun _ => [.bool false, .int .i64 a0, .str []], rfl, one_set rfl, ?_⟩
  refine ⟨rfl, _, rfl, ?_⟩
  exact ⟨[], .agg [.bool false, .int .i64 a0, .str []], [], by decide, (show 0 ≤ 0 by decide), .agg_l ⟨.bool_eq rfl, .int_eq rfl, .str_eq rfl, trivial⟩, trivial, rfl, rfl⟩
def m_i_IntValue (a0 : Int) : Option (TValue) :=
  some (TValue.mk 2 a0 [] 0 [])
theorem ok_i_IntValue {a0 : Int} {r : TValue} (h : m_i_IntValue a0 = some r) : ACall Tryd.prog 93 [.int .i64 a0] [] (fun res h => res = .agg [.int .i64 r.fKind, .int .i64 r.fNum, .str r.fStr, .int .i64 r.fNext, sl 8 TEntry.cells r.fItems] ∧ h = []) := by
  refine ACall.of_vc tabT_ok mixed Tryd.func93 rfl (by kernel_rfl) _ _ _ rfl (by kernel_rfl) ?_
  unfold m_i_IntValue at h
  refine .direct ?_
  refine .direct ?_
  refine ⟨rfl, _, fun _ => [.int .i64 2, .int .i64 a0, .str [], .int .i64 0, .nils], rfl, one_set rfl, ?_⟩
  obtain rfl := Option.some.inj h
  refine ⟨rfl, _, rfl, ?_⟩
  exact ⟨[], .agg [.int .i64 ((TValue.mk 2 a0 [] 0 []).fKind), .int .i64 ((TValue.mk 2 a0 [] 0 []).fNum), .str ((TValue.mk 2 a0 [] 0 []).fStr), .int .i64 ((TValue.mk 2 a0 [] 0 []).fNext), sl 8 TEntry.cells ((TValue.mk 2 a0 [] 0 []).fItems)], [], by decide, (show 0 ≤ 0 by decide), .agg_l ⟨.int_eq rfl, .int_eq rfl, .str_eq rfl, .int_eq rfl, fz_nils, trivial⟩, trivial, rfl, rfl⟩
theorem ok_i_IntValuex (a0 : Int) : ACall Tryd.prog 93 [.int .i64 a0] [] (fun res h => res = .agg [.int .i64 2, .int .i64 a0, .str [], .int .i64 0, .nils] ∧ h = []) := by
  refine ACall.of_vc tabT_ok mixed Tryd.func93 rfl (by kernel_rfl) _ _ _ rfl (by kernel_rfl) ?_
  refine .direct ?_
  refine .direct ?_
  refine ⟨rfl, _, fun _ => [.int .i64 2, .int .i64 a0, .str [], .int .i64 0, .nils], rfl, one_set rfl, ?_⟩
  refine ⟨rfl, _, rfl, ?_⟩
  exact ⟨[], .agg [.int .i64 2, .int .i64 a0, .str [], .int .i64 0, .nils], [], by decide, (show 0 ≤ 0 by decide), .agg_l ⟨.int_eq rfl, .int_eq rfl, .str_eq rfl, .int_eq rfl, .nils, trivial⟩, trivial, rfl, rfl⟩
def m_i_TextValue (a0 : Str) : Option (TValue) :=
  some (TValue.mk 3 0 a0 0 [])
theorem ok_i_TextValue {a0 : Str} {r : TValue} (h : m_i_TextValue a0 = some r) : ACall Tryd.prog 95 [.str a0] [] (fun res h => res = .agg [.int .i64 r.fKind, .int .i64 r.fNum, .str r.fStr, .int .i64 r.fNext, sl 8 TEntry.cells r.fItems] ∧ h = []) := by
  refine ACall.of_vc tabT_ok mixed Tryd.func95 rfl (by kernel_rfl) _ _ _ rfl (by kernel_rfl) ?_
  unfold m_i_TextValue at h
  refine .direct ?_
  refine .direct ?_
  refine ⟨rfl, _, fun _ => [.int .i64 3, .int .i64 0, .str a0, .int .i64 0, .nils], rfl, one_set rfl, ?_⟩
  obtain rfl := Option.some.inj h
  refine ⟨rfl, _, rfl, ?_⟩
  exact ⟨[], .agg [.int .i64 ((TValue.mk 3 0 a0 0 []).fKind), .int .i64 ((TValue.mk 3 0 a0 0 []).fNum), .str ((TValue.mk 3 0 a0 0 []).fStr), .int .i64 ((TValue.mk 3 0 a0 0 []).fNext), sl 8 TEntry.cells ((TValue.mk 3 0 a0 0 []).fItems)], [], by decide, (show 0 ≤ 0 by decide), .agg_l ⟨.int_eq rfl, .int_eq rfl, .str_eq rfl, .int_eq rfl, fz_nils, trivial⟩, trivial, rfl, rfl⟩
theorem ok_i_TextValuex (a0 : Str) : ACall Tryd.prog 95 [.str a0] [] (fun res h => res = .agg [.int .i64 3, .int .i64 0, .str a0, .int .i64 0, .nils] ∧ h = []) := by
  refine ACall.of_vc tabT_ok mixed Tryd.func95 rfl (by kernel_rfl) _ _ _ rfl (by kernel_rfl) ?_
  refine .direct ?_
  refine .direct ?_
  refine ⟨rfl, _, fun _ => [.int .i64 3, .int .i64 0, .str a0, .int .i64 0, .nils], rfl, one_set rfl, ?_⟩
  refine ⟨rfl, _, rfl, ?_⟩
  exact ⟨[], .agg [.int .i64 3, .int .i64 0, .str a0, .int .i64 0, .nils], [], by decide, (show 0 ≤ 0 by decide), .agg_l ⟨.int_eq rfl, .int_eq rfl, .str_eq rfl, .int_eq rfl, .nils, trivial⟩, trivial, rfl, rfl⟩
def m_i_ArrayValue : Option (TValue) :=
  some (TValue.mk 4 0 [] 0 [])
theorem ok_i_ArrayValue {r : TValue} (h : m_i_ArrayValue  = some r) : ACall Tryd.prog 58 [] [] (fun res h => res = .agg [.int .i64 r.fKind, .int .i64 r.fNum, .str r.fStr, .int .i64 r.fNext, sl 8 TEntry.cells r.fItems] ∧ h = []) := by
  refine ACall.of_vc tabT_ok mixed Tryd.func58 rfl (by kernel_rfl) _ _ _ rfl (by kernel_rfl) ?_
  unfold m_i_ArrayValue at h
  refine .direct ?_
  refine .direct ?_
  refine ⟨rfl, _, fun _ => [.int .i64 4, .int .i64 0, .str [], .int .i64 0, .nils], rfl, one_set rfl, ?_⟩
  obtain rfl := Option.some.inj h
  refine ⟨rfl, _, rfl, ?_⟩
  exact ⟨[], .agg [.int .i64 ((TValue.mk 4 0 [] 0 []).fKind), .int .i64 ((TValue.mk 4 0 [] 0 []).fNum), .str ((TValue.mk 4 0 [] 0 []).fStr), .int .i64 ((TValue.mk 4 0 [] 0 []).fNext), sl 8 TEntry.cells ((TValue.mk 4 0 [] 0 []).fItems)], [], by decide, (show 0 ≤ 0 by decide), .agg_l ⟨.int_eq rfl, .int_eq rfl, .str_eq rfl, .int_eq rfl, fz_nils, trivial⟩, trivial, rfl, rfl⟩
theorem ok_i_ArrayValuex : ACall Tryd.prog 58 [] [] (fun res h => res = .agg [.int .i64 4, .int .i64 0, .str [], .int .i64 0, .nils] ∧ h = []) := by
  refine ACall.of_vc tabT_ok mixed Tryd.func58 rfl (by kernel_rfl) _ _ _ rfl (by kernel_rfl) ?_
  refine .direct ?_
  refine .direct ?_
  refine ⟨rfl, _, fun _ => [.int .i64 4, .int .i64 0, .str [], .int .i64 0, .nils], rfl, one_set rfl, ?_⟩
  refine ⟨rfl, _, rfl, ?_⟩
  exact ⟨[], .agg [.int .i64 4, .int .i64 0, .str [], .int .i64 0, .nils], [], by decide, (show 0 ≤ 0 by decide), .agg_l ⟨.int_eq rfl, .int_eq rfl, .str_eq rfl, .int_eq rfl, .nils, trivial⟩, trivial, rfl, rfl⟩
def m93 (a0 : Int) (a1 : Int) : Option (Int) :=
  (if a1 > a0 then
    some a1
  else
    some a0)
theorem ok93 {a0 : Int} {a1 : Int} {r : Int} (h : m93 a0 a1 = some r) : ACall Tryd.prog 40 [.int .i64 a0, .int .i64 a1] [] (fun res h => res = .int .i64 r ∧ h = []) := by
  refine ACall.of_vc tabT_ok mixed Tryd.func40 rfl (by kernel_rfl) _ _ _ rfl (by kernel_rfl) ?_
  unfold m93 at h
  refine .direct ?_
  refine .direct ?_
  refine .direct ?_
  refine splitB.mk (fun hb1 => ?_) (fun hb1 => ?_)
  · replace h := T_dec hb1 h
    refine .direct ?_
    obtain rfl := Option.some.inj h
    exact ⟨[], .int .i64 a1, [], by decide, (show 0 ≤ 0 by decide), .int_eq rfl, trivial, rfl, rfl⟩
  · replace h := F_dec hb1 h
    refine .direct ?_
    obtain rfl := Option.some.inj h
    exact ⟨[], .int .i64 a0, [], by decide, (show 0 ≤ 0 by decide), .int_eq rfl, trivial, rfl, rfl⟩
def m91 (a0 : Int) (a1 : Int) : Option (Int) :=
  (if a1 > a0 then
    some a1
  else
    some a0)
theorem ok91 {a0 : Int} {a1 : Int} {r : Int} (h : m91 a0 a1 = some r) : ACall Tryd.prog 76 [.int .i64 a0, .int .i64 a1] [] (fun res h => res = .int .i64 r ∧ h = []) := by
  refine ACall.of_vc tabT_ok mixed Tryd.func76 rfl (by kernel_rfl) _ _ _ rfl (by kernel_rfl) ?_
  unfold m91 at h
  refine .direct ?_
  refine .direct ?_
  refine .direct ?_
  refine splitB.mk (fun hb1 => ?_) (fun hb1 => ?_)
  · replace h := T_dec hb1 h
    refine .direct ?_
    obtain rfl := Option.some.inj h
    exact ⟨[], .int .i64 a1, [], by decide, (show 0 ≤ 0 by decide), .int_eq rfl, trivial, rfl, rfl⟩
  · replace h := F_dec hb1 h
    refine .direct ?_
    obtain rfl := Option.some.inj h
    exact ⟨[], .int .i64 a0, [], by decide, (show 0 ≤ 0 by decide), .int_eq rfl, trivial, rfl, rfl⟩
def m_s_ArrayValue : Option (TValue) :=
  some (TValue.mk 4 0 [] 0 [])
theorem ok_s_ArrayValue {r : TValue} (h : m_s_ArrayValue  = some r) : ACall Tryd.prog 72 [] [] (fun res h => res = .agg [.int .i64 r.fKind, .int .i64 r.fNum, .str r.fStr, .int .i64 r.fNext, sl 8 TEntry.cells r.fItems] ∧ h = []) := by
  refine ACall.of_vc tabT_ok mixed Tryd.func72 rfl (by kernel_rfl) _ _ _ rfl (by kernel_rfl) ?_
  unfold m_s_ArrayValue at h
  refine .direct ?_
  refine .direct ?_
  refine ⟨rfl, _, fun _ => [.int .i64 4, .int .i64 0, .str [], .int .i64 0, .nils], rfl, one_set rfl, ?_⟩
  obtain rfl := Option.some.inj h
  refine ⟨rfl, _, rfl, ?_⟩
  exact ⟨[], .agg [.int .i64 ((TValue.mk 4 0 [] 0 []).fKind), .int .i64 ((TValue.mk 4 0 [] 0 []).fNum), .str ((TValue.mk 4 0 [] 0 []).fStr), .int .i64 ((TValue.mk 4 0 [] 0 []).fNext), sl 8 TEntry.cells ((TValue.mk 4 0 [] 0 []).fItems)], [], by decide, (show 0 ≤ 0 by decide), .agg_l ⟨.int_eq rfl, .int_eq rfl, .str_eq rfl, .int_eq rfl, fz_nils, trivial⟩, trivial, rfl, rfl⟩
theorem ok_s_ArrayValuex : ACall Tryd.prog 72 [] [] (fun res h => res = .agg [.int .i64 4, .int .i64 0, .str [], .int .i64 0, .nils] ∧ h = []) := by
  refine ACall.of_vc tabT_ok mixed Tryd.func72 rfl (by kernel_rfl) _ _ _ rfl (by kernel_rfl) ?_
  refine .direct ?_
  refine .direct ?_
  refine ⟨rfl, _, fun _ => [.int .i64 4, .int .i64 0, .str [], .int .i64 0, .nils], rfl, one_set rfl, ?_⟩
  refine ⟨rfl, _, rfl, ?_⟩
  exact ⟨[], .agg [.int .i64 4, .int .i64 0, .str [], .int .i64 0, .nils], [], by decide, (show 0 ≤ 0 by decide), .agg_l ⟨.int_eq rfl, .int_eq rfl, .str_eq rfl, .int_eq rfl, .nils, trivial⟩, trivial, rfl, rfl⟩
def m_s_IntValue (a0 : Int) : Option (TValue) :=
  some (TValue.mk 2 a0 [] 0 [])
theorem ok_s_IntValue {a0 : Int} {r : TValue} (h : m_s_IntValue a0 = some r) : ACall Tryd.prog 100 [.int .i64 a0] [] (fun res h => res = .agg [.int .i64 r.fKind, .int .i64 r.fNum, .str r.fStr, .int .i64 r.fNext, sl 8 TEntry.cells r.fItems] ∧ h = []) := by
  refine ACall.of_vc tabT_ok mixed Tryd.func100 rfl (by kernel_rfl) _ _ _ rfl (by kernel_rfl) ?_
  unfold m_s_IntValue at h
  refine .direct ?_
  refine .direct ?_
  refine ⟨rfl, _, fun _ => [.int .i64 2, .int .i64 a0, .str [], .int .i64 0, .nils], rfl, one_set rfl, ?_⟩
  obtain rfl := Option.some.inj h
  refine ⟨rfl, _, rfl, ?_⟩
  exact ⟨[], .agg [.int .i64 ((TValue.mk 2 a0 [] 0 []).fKind), .int .i64 ((TValue.mk 2 a0 [] 0 []).fNum), .str ((TValue.mk 2 a0 [] 0 []).fStr), .int .i64 ((TValue.mk 2 a0 [] 0 []).fNext), sl 8 TEntry.cells ((TValue.mk 2 a0 [] 0 []).fItems)], [], by decide, (show 0 ≤ 0 by decide), .agg_l ⟨.int_eq rfl, .int_eq rfl, .str_eq rfl, .int_eq rfl, fz_nils, trivial⟩, trivial, rfl, rfl⟩
theorem ok_s_IntValuex (a0 : Int) : ACall Tryd.prog 100 [.int .i64 a0] [] (fun res h => res = .agg [.int .i64 2, .int .i64 a0, .str [], .int .i64 0, .nils] ∧ h = []) := by
  refine ACall.of_vc tabT_ok mixed Tryd.func100 rfl (by kernel_rfl) _ _ _ rfl (by kernel_rfl) ?_
  refine .direct ?_
  refine .direct ?_
  refine ⟨rfl, _, fun _ => [.int .i64 2, .int .i64 a0, .str [], .int .i64 0, .nils], rfl, one_set rfl, ?_⟩
  refine ⟨rfl, _, rfl, ?_⟩
  exact ⟨[], .agg [.int .i64 2, .int .i64 a0, .str [], .int .i64 0, .nils], [], by decide, (show 0 ≤ 0 by decide), .agg_l ⟨.int_eq rfl, .int_eq rfl, .str_eq rfl, .int_eq rfl, .nils, trivial⟩, trivial, rfl, rfl⟩
def m_s_TextValue (a0 : Str) : Option (TValue) :=
  some (TValue.mk 3 0 a0 0 [])
theorem ok_s_TextValue {a0 : Str} {r : TValue} (h : m_s_TextValue a0 = some r) : ACall Tryd.prog 101 [.str a0] [] (fun res h => res = .agg [.int .i64 r.fKind, .int .i64 r.fNum, .str r.fStr, .int .i64 r.fNext, sl 8 TEntry.cells r.fItems] ∧ h = []) := by
  refine ACall.of_vc tabT_ok mixed Tryd.func101 rfl (by kernel_rfl) _ _ _ rfl (by kernel_rfl) ?_
  unfold m_s_TextValue at h
  refine .direct ?_
  refine .direct ?_
  refine ⟨rfl, _, fun _ => [.int .i64 3, .int .i64 0, .str a0, .int .i64 0, .nils], rfl, one_set rfl, ?_⟩
  obtain rfl := Option.some.inj h
  refine ⟨rfl, _, rfl, ?_⟩
  exact ⟨[], .agg [.int .i64 ((TValue.mk 3 0 a0 0 []).fKind), .int .i64 ((TValue.mk 3 0 a0 0 []).fNum), .str ((TValue.mk 3 0 a0 0 []).fStr), .int .i64 ((TValue.mk 3 0 a0 0 []).fNext), sl 8 TEntry.cells ((TValue.mk 3 0 a0 0 []).fItems)], [], by decide, (show 0 ≤ 0 by decide), .agg_l ⟨.int_eq rfl, .int_eq rfl, .str_eq rfl, .int_eq rfl, fz_nils, trivial⟩, trivial, rfl, rfl⟩
theorem ok_s_TextValuex (a0 : Str) : ACall Tryd.prog 101 [.str a0] [] (fun res h => res = .agg [.int .i64 3, .int .i64 0, .str a0, .int .i64 0, .nils] ∧ h = []) := by
  refine ACall.of_vc tabT_ok mixed Tryd.func101 rfl (by kernel_rfl) _ _ _ rfl (by kernel_rfl) ?_
  refine .direct ?_
  refine .direct ?_
  refine ⟨rfl, _, fun _ => [.int .i64 3, .int .i64 0, .str a0, .int .i64 0, .nils], rfl, one_set rfl, ?_⟩
  refine ⟨rfl, _, rfl, ?_⟩
  exact ⟨[], .agg [.int .i64 3, .int .i64 0, .str a0, .int .i64 0, .nils], [], by decide, (show 0 ≤ 0 by decide), .agg_l ⟨.int_eq rfl, .int_eq rfl, .str_eq rfl, .int_eq rfl, .nils, trivial⟩, trivial, rfl, rfl⟩
def m105 (a0 : Bool) : Option (TValue) :=
  (if a0 = true then
    some (TValue.mk 1 1 [] 0 [])
  else
    some (TValue.mk 1 0 [] 0 []))
theorem ok105 {a0 : Bool} {r : TValue} (h : m105 a0 = some r) : ACall Tryd.prog 109 [.bool a0] [] (fun res h => res = .agg [.int .i64 r.fKind, .int .i64 r.fNum, .str r.fStr, .int .i64 r.fNext, sl 8 TEntry.cells r.fItems] ∧ h = []) := by
  refine ACall.of_vc tabT_ok mixed Tryd.func109 rfl (by kernel_rfl) _ _ _ rfl (by kernel_rfl) ?_
  unfold m105 at h
  refine .direct ?_
  refine .direct ?_
  refine .direct ?_
  refine splitB.mk (fun hb1 => ?_) (fun hb1 => ?_)
  · replace h := T_var hb1 h
    refine .direct ?_
    refine ⟨rfl, _, fun _ => [.int .i64 1, .int .i64 1, .str [], .int .i64 0, .nils], rfl, one_set rfl, ?_⟩
    obtain rfl := Option.some.inj h
    refine ⟨rfl, _, rfl, ?_⟩
    exact ⟨[], .agg [.int .i64 ((TValue.mk 1 1 [] 0 []).fKind), .int .i64 ((TValue.mk 1 1 [] 0 []).fNum), .str ((TValue.mk 1 1 [] 0 []).fStr), .int .i64 ((TValue.mk 1 1 [] 0 []).fNext), sl 8 TEntry.cells ((TValue.mk 1 1 [] 0 []).fItems)], [], by decide, (show 0 ≤ 0 by decide), .agg_l ⟨.int_eq rfl, .int_eq rfl, .str_eq rfl, .int_eq rfl, fz_nils, trivial⟩, trivial, rfl, rfl⟩
  · replace h := F_var hb1 h
    refine .direct ?_
    refine ⟨rfl, _, fun _ => [.int .i64 1, .int .i64 0, .str [], .int .i64 0, .nils], rfl, one_set rfl, ?_⟩
    obtain rfl := Option.some.inj h
    refine ⟨rfl, _, rfl, ?_⟩
    exact ⟨[], .agg [.int .i64 ((TValue.mk 1 0 [] 0 []).fKind), .int .i64 ((TValue.mk 1 0 [] 0 []).fNum), .str ((TValue.mk 1 0 [] 0 []).fStr), .int .i64 ((TValue.mk 1 0 [] 0 []).fNext), sl 8 TEntry.cells ((TValue.mk 1 0 [] 0 []).fItems)], [], by decide, (show 0 ≤ 0 by decide), .agg_l ⟨.int_eq rfl, .int_eq rfl, .str_eq rfl, .int_eq rfl, fz_nils, trivial⟩, trivial, rfl, rfl⟩
def m_s_KeyValue (a0 : TKey) : Option (TValue) :=
  (if a0.fText = true then
    some (TValue.mk 3 0 a0.fStr 0 [])
  else
    some (TValue.mk 2 a0.fNum [] 0 []))
theorem ok_s_KeyValue {a0 : TKey} {r : TValue} (h : m_s_KeyValue a0 = some r) : ACall Tryd.prog 98 [.agg [.bool a0.fText, .int .i64 a0.fNum, .str a0.fStr]] [] (fun res h => res = .agg [.int .i64 r.fKind, .int .i64 r.fNum, .str r.fStr, .int .i64 r.fNext, sl 8 TEntry.cells r.fItems] ∧ h = []) := by
  refine ACall.of_vc tabT_ok mixed Tryd.func98 rfl (by kernel_rfl) _ _ _ rfl (by kernel_rfl) ?_
  unfold m_s_KeyValue at h
  refine .direct ?_
  refine .direct ?_
  refine .direct ?_
  refine ⟨rfl, ?_⟩
  refine ⟨rfl, _, rfl, ?_⟩
  refine splitB.mk (fun hb1 => ?_) (fun hb1 => ?_)
  · replace h := T_var hb1 h
    refine .direct ?_
    refine ⟨rfl, ?_⟩
    refine ⟨rfl, _, rfl, ?_⟩
    refine ⟨_, ACall.pure0 (ok_s_TextValuex a0.fStr) _ rfl (fun _ => rfl), ?_⟩
    rintro _ _ ⟨rfl, rfl⟩
    refine ⟨rfl, _, fun _ => [.int .i64 3, .int .i64 0, .str a0.fStr, .int .i64 0, .nils], rfl, one_set rfl, ?_⟩
    obtain rfl := Option.some.inj h
    refine ⟨rfl, _, rfl, ?_⟩
    exact ⟨[], .agg [.int .i64 ((TValue.mk 3 0 a0.fStr 0 []).fKind), .int .i64 ((TValue.mk 3 0 a0.fStr 0 []).fNum), .str ((TValue.mk 3 0 a0.fStr 0 []).fStr), .int .i64 ((TValue.mk 3 0 a0.fStr 0 []).fNext), sl 8 TEntry.cells ((TValue.mk 3 0 a0.fStr 0 []).fItems)], [], by decide, (show 0 ≤ 0 by decide), .agg_l ⟨.int_eq rfl, .int_eq rfl, .str_eq rfl, .int_eq rfl, fz_nils, trivial⟩, trivial, rfl, rfl⟩
  · replace h := F_var hb1 h
    refine .direct ?_
    refine ⟨rfl, ?_⟩
    refine ⟨rfl, _, rfl, ?_⟩
    refine ⟨_, ACall.pure0 (ok_s_IntValuex a0.fNum) _ rfl (fun _ => rfl), ?_⟩
    rintro _ _ ⟨rfl, rfl⟩
    refine ⟨rfl, _, fun _ => [.int .i64 2, .int .i64 a0.fNum, .str [], .int .i64 0, .nils], rfl, one_set rfl, ?_⟩
    obtain rfl := Option.some.inj h
    refine ⟨rfl, _, rfl, ?_⟩
    exact ⟨[], .agg [.int .i64 ((TValue.mk 2 a0.fNum [] 0 []).fKind), .int .i64 ((TValue.mk 2 a0.fNum [] 0 []).fNum), .str ((TValue.mk 2 a0.fNum [] 0 []).fStr), .int .i64 ((TValue.mk 2 a0.fNum [] 0 []).fNext), sl 8 TEntry.cells ((TValue.mk 2 a0.fNum [] 0 []).fItems)], [], by decide, (show 0 ≤ 0 by decide), .agg_l ⟨.int_eq rfl, .int_eq rfl, .str_eq rfl, .int_eq rfl, fz_nils, trivial⟩, trivial, rfl, rfl⟩
def m_i_KeyValue (a0 : TKey) : Option (TValue) :=
  (if a0.fText = true then
    some (TValue.mk 3 0 a0.fStr 0 [])
  else
    some (TValue.mk 2 a0.fNum [] 0 []))
theorem ok_i_KeyValue {a0 : TKey} {r : TValue} (h : m_i_KeyValue a0 = some r) : ACall Tryd.prog 89 [.agg [.bool a0.fText, .int .i64 a0.fNum, .str a0.fStr]] [] (fun res h => res = .agg [.int .i64 r.fKind, .int .i64 r.fNum, .str r.fStr, .int .i64 r.fNext, sl 8 TEntry.cells r.fItems] ∧ h = []) := by
  refine ACall.of_vc tabT_ok mixed Tryd.func89 rfl (by kernel_rfl) _ _ _ rfl (by kernel_rfl) ?_
  unfold m_i_KeyValue at h
  refine .direct ?_
  refine .direct ?_
  refine .direct ?_
  refine ⟨rfl, ?_⟩
  refine ⟨rfl, _, rfl, ?_⟩
  refine splitB.mk (fun hb1 => ?_) (fun hb1 => ?_)
  · replace h := T_var hb1 h
    refine .direct ?_
    refine ⟨rfl, ?_⟩
    refine ⟨rfl, _, rfl, ?_⟩
    refine ⟨_, ACall.pure0 (ok_i_TextValuex a0.fStr) _ rfl (fun _ => rfl), ?_⟩
    rintro _ _ ⟨rfl, rfl⟩
    refine ⟨rfl, _, fun _ => [.int .i64 3, .int .i64 0, .str a0.fStr, .int .i64 0, .nils], rfl, one_set rfl, ?_⟩
    obtain rfl := Option.some.inj h
    refine ⟨rfl, _, rfl, ?_⟩
    exact ⟨[], .agg [.int .i64 ((TValue.mk 3 0 a0.fStr 0 []).fKind), .int .i64 ((TValue.mk 3 0 a0.fStr 0 []).fNum), .str ((TValue.mk 3 0 a0.fStr 0 []).fStr), .int .i64 ((TValue.mk 3 0 a0.fStr 0 []).fNext), sl 8 TEntry.cells ((TValue.mk 3 0 a0.fStr 0 []).fItems)], [], by decide, (show 0 ≤ 0 by decide), .agg_l ⟨.int_eq rfl, .int_eq rfl, .str_eq rfl, .int_eq rfl, fz_nils, trivial⟩, trivial, rfl, rfl⟩
  · replace h := F_var hb1 h
    refine .direct ?_
    refine ⟨rfl, ?_⟩
    refine ⟨rfl, _, rfl, ?_⟩
    refine ⟨_, ACall.pure0 (ok_i_IntValuex a0.fNum) _ rfl (fun _ => rfl), ?_⟩
    rintro _ _ ⟨rfl, rfl⟩
    refine ⟨rfl, _, fun _ => [.int .i64 2, .int .i64 a0.fNum, .str [], .int .i64 0, .nils], rfl, one_set rfl, ?_⟩
    obtain rfl := Option.some.inj h
    refine ⟨rfl, _, rfl, ?_⟩
    exact ⟨[], .agg [.int .i64 ((TValue.mk 2 a0.fNum [] 0 []).fKind), .int .i64 ((TValue.mk 2 a0.fNum [] 0 []).fNum), .str ((TValue.mk 2 a0.fNum [] 0 []).fStr), .int .i64 ((TValue.mk 2 a0.fNum [] 0 []).fNext), sl 8 TEntry.cells ((TValue.mk 2 a0.fNum [] 0 []).fItems)], [], by decide, (show 0 ≤ 0 by decide), .agg_l ⟨.int_eq rfl, .int_eq rfl, .str_eq rfl, .int_eq rfl, fz_nils, trivial⟩, trivial, rfl, rfl⟩
def m_l_big (a0 : List UInt8) : Option (Bool) :=
  some (decide ((a0.length : Int) > 1048576))
theorem ok_l_big {a0 : List UInt8} {r : Bool} (h : m_l_big a0 = some r) : ACall Tryd.prog 8 [sl 1 cB a0] [] (fun res h => res = .bool r ∧ h = []) := by
  refine ACall.of_vc tabT_ok mixed Tryd.func8 rfl (by kernel_rfl) _ _ _ rfl (by kernel_rfl) ?_
  unfold m_l_big at h
  refine .direct ?_
  refine .direct ?_
  obtain rfl := Option.some.inj h
  exact ⟨[], .bool (decide ((a0.length : Int) > 1048576)), [], by decide, (show 0 ≤ 0 by decide), .bool_eq rfl, trivial, rfl, rfl⟩
theorem ok_l_bigx (a0 : List UInt8) : ACall Tryd.prog 8 [sl 1 cB a0] [] (fun res h => res = .bool (decide ((a0.length : Int) > 1048576)) ∧ h = []) := by
  refine ACall.of_vc tabT_ok mixed Tryd.func8 rfl (by kernel_rfl) _ _ _ rfl (by kernel_rfl) ?_
  refine .direct ?_
  refine .direct ?_
  exact ⟨[], .bool (decide ((a0.length : Int) > 1048576)), [], by decide, (show 0 ≤ 0 by decide), .bool_eq rfl, trivial, rfl, rfl⟩
def m36_L2 (a0 : List UInt8) (y5 : Int) (y6 : Int) : Option (Int) :=
  (if y6 < (a0.length : Int) then
    (if y6 < 4000 then
      idx a0 y6 >>= fun c11 =>
      m36_L2 a0 (bits .and .i64 (W64 ((W64 ((W64 (y5 * 137)) + (W64 ((c11.toNat : Int))))) + 11)) 1073741823) (W64 (y6 + 1))
    else
      some y5)
  else
    some y5)
partial_fixpoint
def m36 (a0 : List UInt8) : Option (TL1Cur) :=
  (
    m36_L2 a0 (W64 (193017 + (a0.length : Int))) 0
   : Option (Int)) >>= fun y1 =>
  some (TL1Cur.mk a0 0 y1)
theorem ok36 {a0 : List UInt8} {r : TL1Cur} (h : m36 a0 = some r) : ACall Tryd.prog 34 [sl 1 cB a0] [] (fun res h => res = .optr 0 0 0 0 ∧ h = [.row 0 3 1 96 (fun _ => [sl 1 cB r.fB, .int .i64 r.fI, .int .i64 r.fH])]) := by
  refine ACall.of_vc tabT_ok mixed Tryd.func34 rfl (by kernel_rfl) _ _ _ rfl (by kernel_rfl) ?_
  unfold m36 at h
  refine .direct ?_
  refine .direct ?_
  obtain ⟨o2, ho3, hk4⟩ := bind_some h
  replace h := ho3
  refine .cut (fun σ η => ∃ y1, y1 = o2 ∧ σ = [(0, sl 1 cB a0), (3, .int .i64 y1)] ∧ η = []) ?_ ?_
  · refine .direct ?_
    refine LoopAt.enter [(0, sl 1 cB a0), (3, .int .i64 (W64 (193017 + (a0.length : Int)))), (4, .int .i64 0)] [] ⟨[], by decide, (show 0 ≤ 0 by decide), ⟨.slc_eq rfl (fun _ _ => rfl), .int_eq rfl, .int_eq rfl, trivial⟩, trivial⟩ ?_
    refine m36_L2.partial_correctness a0 (motive := fun y5 y6 o13 => o2 = o13 → LoopAt _ _ [(0, sl 1 cB a0), (3, .int .i64 y5), (4, .int .i64 y6)] []) ?_ (W64 (193017 + (a0.length : Int))) 0 o2 h rfl
    intro F8 ih7 y5 y6 o13 h hr14
    subst hr14
    refine LoopAt.round ?_
    refine .direct ?_
    refine .direct ?_
    refine splitB.mk (fun hb9 => ?_) (fun hb9 => ?_)
    · replace h := T_dec hb9 h
      refine splitB_t ?_
      refine splitB_t ?_
      refine splitB.mk (fun hb10 => ?_) (fun hb10 => ?_)
      · replace h := T_dec hb10 h
        refine .direct ?_
        obtain ⟨c11, hx12, h⟩ := bind_some h
        refine ⟨idx_bd hx12, _, (idx_row hx12).trans rfl, ?_⟩
        exact ⟨[(0, sl 1 cB a0), (3, .int .i64 (bits .and .i64 (W64 ((W64 ((W64 (y5 * 137)) + (W64 ((c11.toNat : Int))))) + 11)) 1073741823)), (4, .int .i64 (W64 (y6 + 1)))], [], ⟨[], by decide, (show 0 ≤ 0 by decide), ⟨.slc_eq rfl (fun _ _ => rfl), .int_eq rfl, .int_eq rfl, trivial⟩, trivial⟩, ih7 _ _ _ h rfl⟩
      · replace h := F_dec hb10 h
        exact ⟨[(0, sl 1 cB a0), (3, .int .i64 y5)], [], ⟨[], by decide, (show 0 ≤ 0 by decide), ⟨.slc_eq rfl (fun _ _ => rfl), .int_eq rfl, trivial⟩, trivial⟩, y5, Option.some.inj h, rfl, rfl⟩
    · replace h := F_dec hb9 h
      refine splitB_f ?_
      refine splitB_f ?_
      refine splitB_f ?_
      exact ⟨[(0, sl 1 cB a0), (3, .int .i64 y5)], [], ⟨[], by decide, (show 0 ≤ 0 by decide), ⟨.slc_eq rfl (fun _ _ => rfl), .int_eq rfl, trivial⟩, trivial⟩, y5, Option.some.inj h, rfl, rfl⟩
  · rintro _ _ ⟨y1, rfl, rfl, rfl⟩
    replace h := hk4
    refine .direct ?_
    obtain rfl := Option.some.inj h
    exact ⟨[0], .optr 0 0 0 0, [.row 0 3 1 96 (fun _ => [sl 1 cB ((TL1Cur.mk a0 0 y1).fB), .int .i64 ((TL1Cur.mk a0 0 y1).fI), .int .i64 ((TL1Cur.mk a0 0 y1).fH)])], by decide, (show 0 ≤ 1 by decide), .optr_eq rfl ⟨_, _, _, _, rfl⟩ ⟨_, _, _, _, rfl⟩ rfl rfl, ⟨⟨fun h0 => absurd (show 0 < 0 from h0) (by decide), rfl, rfl, rfl, fun _ _ => ⟨.slc_eq rfl (fun _ _ => rfl), .int_eq rfl, .int_eq rfl, trivial⟩⟩, trivial⟩, rfl, rfl⟩
def m72 (a0 : TL1Cur) : Option (Int × TL1Cur) :=
  (if a0.fI < (a0.fB.length : Int) then
    idx a0.fB a0.fI >>= fun c2 =>
    some (bits .and .i64 (W64 ((bits .and .i64 (bits .xor .i64 ((W64 ((W64 (a0.fH * 6364136223846793005)) + 1442695040888963407)).fdiv (2 ^ min (33 : Int).toNat IntKind.i64.bits)) ((W64 ((W64 (a0.fH * 6364136223846793005)) + 1442695040888963407)).fdiv (2 ^ min (47 : Int).toNat IntKind.i64.bits))) 255) + (W64 ((c2.toNat : Int))))) 255, (TL1Cur.mk a0.fB (W64 (a0.fI + 1)) (W64 ((W64 (a0.fH * 6364136223846793005)) + 1442695040888963407))))
  else
    some (bits .and .i64 (bits .xor .i64 ((W64 ((W64 (a0.fH * 6364136223846793005)) + 1442695040888963407)).fdiv (2 ^ min (33 : Int).toNat IntKind.i64.bits)) ((W64 ((W64 (a0.fH * 6364136223846793005)) + 1442695040888963407)).fdiv (2 ^ min (47 : Int).toNat IntKind.i64.bits))) 255, (TL1Cur.mk a0.fB a0.fI (W64 ((W64 (a0.fH * 6364136223846793005)) + 1442695040888963407)))))
theorem ok72 {a0 : TL1Cur} {r : Int × TL1Cur} {g1000 : Nat} (h : m72 a0 = some r) : ACall Tryd.prog 104 [.optr 0 g1000 0 0] [.row g1000 3 1 96 (fun _ => [sl 1 cB a0.fB, .int .i64 a0.fI, .int .i64 a0.fH])] (fun res h => res = .int .i64 r.1 ∧ h = [.row g1000 3 1 96 (fun _ => [sl 1 cB r.2.fB, .int .i64 r.2.fI, .int .i64 r.2.fH])]) := by
  refine ACall.of_vc tabT_ok mixed Tryd.func104 rfl (by kernel_rfl) _ _ _ rfl (by kernel_rfl) ?_
  unfold m72 at h
  refine .direct ?_
  refine .direct ?_
  refine ⟨rfl, ?_⟩
  refine ⟨rfl, ?_⟩
  refine ⟨rfl, _, rfl, ?_⟩
  refine ⟨rfl, ?_⟩
  refine ⟨rfl, ?_⟩
  refine ⟨rfl, _, fun _ => [sl 1 cB a0.fB, .int .i64 a0.fI, .int .i64 (W64 ((W64 (a0.fH * 6364136223846793005)) + 1442695040888963407))], rfl, one_set rfl, ?_⟩
  refine .direct ?_
  refine ⟨rfl, ?_⟩
  refine ⟨rfl, ?_⟩
  refine ⟨rfl, _, rfl, ?_⟩
  refine ⟨by decide, ?_⟩
  refine ⟨rfl, ?_⟩
  refine ⟨rfl, ?_⟩
  refine ⟨rfl, _, rfl, ?_⟩
  refine ⟨by decide, ?_⟩
  refine .direct ?_
  refine .direct ?_
  refine ⟨rfl, ?_⟩
  refine ⟨rfl, ?_⟩
  refine ⟨rfl, _, rfl, ?_⟩
  refine ⟨rfl, ?_⟩
  refine ⟨rfl, ?_⟩
  refine ⟨rfl, _, rfl, ?_⟩
  refine splitB.mk (fun hb1 => ?_) (fun hb1 => ?_)
  · replace h := T_dec hb1 h
    refine .direct ?_
    refine ⟨rfl, ?_⟩
    refine ⟨rfl, ?_⟩
    refine ⟨rfl, _, rfl, ?_⟩
    refine ⟨rfl, ?_⟩
    refine ⟨rfl, ?_⟩
    refine ⟨rfl, _, rfl, ?_⟩
    obtain ⟨c2, hx3, h⟩ := bind_some h
    refine ⟨idx_bd hx3, _, (idx_row hx3).trans rfl, ?_⟩
    refine ⟨rfl, ?_⟩
    refine ⟨rfl, ?_⟩
    refine ⟨rfl, _, rfl, ?_⟩
    refine ⟨rfl, ?_⟩
    refine ⟨rfl, ?_⟩
    refine ⟨rfl, _, fun _ => [sl 1 cB a0.fB, .int .i64 (W64 (a0.fI + 1)), .int .i64 (W64 ((W64 (a0.fH * 6364136223846793005)) + 1442695040888963407))], rfl, one_set rfl, ?_⟩
    refine .direct ?_
    obtain rfl := Option.some.inj h
    exact ⟨[0], .int .i64 (bits .and .i64 (W64 ((bits .and .i64 (bits .xor .i64 ((W64 ((W64 (a0.fH * 6364136223846793005)) + 1442695040888963407)).fdiv (2 ^ min (33 : Int).toNat IntKind.i64.bits)) ((W64 ((W64 (a0.fH * 6364136223846793005)) + 1442695040888963407)).fdiv (2 ^ min (47 : Int).toNat IntKind.i64.bits))) 255) + (W64 ((c2.toNat : Int))))) 255), [.row g1000 3 1 96 (fun _ => [sl 1 cB ((TL1Cur.mk a0.fB (W64 (a0.fI + 1)) (W64 ((W64 (a0.fH * 6364136223846793005)) + 1442695040888963407))).fB), .int .i64 ((TL1Cur.mk a0.fB (W64 (a0.fI + 1)) (W64 ((W64 (a0.fH * 6364136223846793005)) + 1442695040888963407))).fI), .int .i64 ((TL1Cur.mk a0.fB (W64 (a0.fI + 1)) (W64 ((W64 (a0.fH * 6364136223846793005)) + 1442695040888963407))).fH)])], by decide, (show 1 ≤ 1 by decide), .int_eq rfl, ⟨⟨fun _ => ⟨rfl, rfl⟩, rfl, rfl, rfl, fun _ _ => ⟨.slc_eq rfl (fun _ _ => rfl), .int_eq rfl, .int_eq rfl, trivial⟩⟩, trivial⟩, rfl, rfl⟩
  · replace h := F_dec hb1 h
    refine .direct ?_
    obtain rfl := Option.some.inj h
    exact ⟨[0], .int .i64 (bits .and .i64 (bits .xor .i64 ((W64 ((W64 (a0.fH * 6364136223846793005)) + 1442695040888963407)).fdiv (2 ^ min (33 : Int).toNat IntKind.i64.bits)) ((W64 ((W64 (a0.fH * 6364136223846793005)) + 1442695040888963407)).fdiv (2 ^ min (47 : Int).toNat IntKind.i64.bits))) 255), [.row g1000 3 1 96 (fun _ => [sl 1 cB ((TL1Cur.mk a0.fB a0.fI (W64 ((W64 (a0.fH * 6364136223846793005)) + 1442695040888963407))).fB), .int .i64 ((TL1Cur.mk a0.fB a0.fI (W64 ((W64 (a0.fH * 6364136223846793005)) + 1442695040888963407))).fI), .int .i64 ((TL1Cur.mk a0.fB a0.fI (W64 ((W64 (a0.fH * 6364136223846793005)) + 1442695040888963407))).fH)])], by decide, (show 1 ≤ 1 by decide), .int_eq rfl, ⟨⟨fun _ => ⟨rfl, rfl⟩, rfl, rfl, rfl, fun _ _ => ⟨.slc_eq rfl (fun _ _ => rfl), .int_eq rfl, .int_eq rfl, trivial⟩⟩, trivial⟩, rfl, rfl⟩
def m40 (a0 : TL1Cur) (a1 : Int) : Option (Int × TL1Cur) :=
  (if a1 ≤ 0 then
    some (0, a0)
  else
    (if a1 ≤ 256 then
      m72 a0 >>= fun (v3, v4) =>
      must (a1 ≠ 0) >>= fun _ =>
      some (v3.tmod a1, v4)
    else
      m72 a0 >>= fun (v7, v8) =>
      m72 v8 >>= fun (v10, v11) =>
      m72 v11 >>= fun (v13, v14) =>
      must (a1 ≠ 0) >>= fun _ =>
      some ((W64 ((W64 ((W64 (v7 * 65536)) + (W64 (v10 * 256)))) + v13)).tmod a1, v14)))
theorem ok40 {a0 : TL1Cur} {a1 : Int} {r : Int × TL1Cur} {g1000 : Nat} (h : m40 a0 a1 = some r) : ACall Tryd.prog 73 [.optr 0 g1000 0 0, .int .i64 a1] [.row g1000 3 1 96 (fun _ => [sl 1 cB a0.fB, .int .i64 a0.fI, .int .i64 a0.fH])] (fun res h => res = .int .i64 r.1 ∧ h = [.row g1000 3 1 96 (fun _ => [sl 1 cB r.2.fB, .int .i64 r.2.fI, .int .i64 r.2.fH])]) := by
  refine ACall.of_vc tabT_ok mixed Tryd.func73 rfl (by kernel_rfl) _ _ _ rfl (by kernel_rfl) ?_
  unfold m40 at h
  refine .direct ?_
  refine .direct ?_
  refine .direct ?_
  refine splitB.mk (fun hb1 => ?_) (fun hb1 => ?_)
  · replace h := T_dec hb1 h
    refine .direct ?_
    obtain rfl := Option.some.inj h
    exact ⟨[0], .int .i64 0, [.row g1000 3 1 96 (fun _ => [sl 1 cB a0.fB, .int .i64 a0.fI, .int .i64 a0.fH])], by decide, (show 1 ≤ 1 by decide), .int_eq rfl, ⟨⟨fun _ => ⟨rfl, rfl⟩, rfl, rfl, rfl, fun _ _ => ⟨.slc_eq rfl (fun _ _ => rfl), .int_eq rfl, .int_eq rfl, trivial⟩⟩, trivial⟩, rfl, rfl⟩
  · replace h := F_dec hb1 h
    refine .direct ?_
    refine .direct ?_
    refine splitB.mk (fun hb2 => ?_) (fun hb2 => ?_)
    · replace h := T_dec hb2 h
      refine .direct ?_
      obtain ⟨⟨v3, v4⟩, hv5, h⟩ := bind_some h
      refine ⟨fun res h' => res = .int .i64 v3 ∧ h' = [.row g1000 3 1 96 (fun _ => [sl 1 cB v4.fB, .int .i64 v4.fI, .int .i64 v4.fH])], (ACall.over (ok72 (g1000 := g1000) hv5) [0] [.row g1000 3 1 96 (fun _ => [sl 1 cB a0.fB, .int .i64 a0.fI, .int .i64 a0.fH])] rfl (by decide) (by simp) (by intro j o hj; exact match j, hj with | 0, hj => by cases hj; rfl | j + 1, hj => by cases hj) rfl).mono (by rintro _ _ ⟨_, _, ⟨rfl, rfl⟩, rfl, rfl⟩; exact ⟨rfl, rfl⟩), ?_⟩
      rintro _ _ ⟨rfl, rfl⟩
      obtain ⟨_, hm6, h⟩ := bind_some h
      refine ⟨must_some hm6, ?_⟩
      obtain rfl := Option.some.inj h
      exact ⟨[0], .int .i64 (v3.tmod a1), [.row g1000 3 1 96 (fun _ => [sl 1 cB v4.fB, .int .i64 v4.fI, .int .i64 v4.fH])], by decide, (show 1 ≤ 1 by decide), .int_eq rfl, ⟨⟨fun _ => ⟨rfl, rfl⟩, rfl, rfl, rfl, fun _ _ => ⟨.slc_eq rfl (fun _ _ => rfl), .int_eq rfl, .int_eq rfl, trivial⟩⟩, trivial⟩, rfl, rfl⟩
    · replace h := F_dec hb2 h
      refine .direct ?_
      obtain ⟨⟨v7, v8⟩, hv9, h⟩ := bind_some h
      refine ⟨fun res h' => res = .int .i64 v7 ∧ h' = [.row g1000 3 1 96 (fun _ => [sl 1 cB v8.fB, .int .i64 v8.fI, .int .i64 v8.fH])], (ACall.over (ok72 (g1000 := g1000) hv9) [0] [.row g1000 3 1 96 (fun _ => [sl 1 cB a0.fB, .int .i64 a0.fI, .int .i64 a0.fH])] rfl (by decide) (by simp) (by intro j o hj; exact match j, hj with | 0, hj => by cases hj; rfl | j + 1, hj => by cases hj) rfl).mono (by rintro _ _ ⟨_, _, ⟨rfl, rfl⟩, rfl, rfl⟩; exact ⟨rfl, rfl⟩), ?_⟩
      rintro _ _ ⟨rfl, rfl⟩
      refine .direct ?_
      obtain ⟨⟨v10, v11⟩, hv12, h⟩ := bind_some h
      refine ⟨fun res h' => res = .int .i64 v10 ∧ h' = [.row g1000 3 1 96 (fun _ => [sl 1 cB v11.fB, .int .i64 v11.fI, .int .i64 v11.fH])], (ACall.over (ok72 (g1000 := g1000) hv12) [0] [.row g1000 3 1 96 (fun _ => [sl 1 cB v8.fB, .int .i64 v8.fI, .int .i64 v8.fH])] rfl (by decide) (by simp) (by intro j o hj; exact match j, hj with | 0, hj => by cases hj; rfl | j + 1, hj => by cases hj) rfl).mono (by rintro _ _ ⟨_, _, ⟨rfl, rfl⟩, rfl, rfl⟩; exact ⟨rfl, rfl⟩), ?_⟩
      rintro _ _ ⟨rfl, rfl⟩
      refine .direct ?_
      obtain ⟨⟨v13, v14⟩, hv15, h⟩ := bind_some h
      refine ⟨fun res h' => res = .int .i64 v13 ∧ h' = [.row g1000 3 1 96 (fun _ => [sl 1 cB v14.fB, .int .i64 v14.fI, .int .i64 v14.fH])], (ACall.over (ok72 (g1000 := g1000) hv15) [0] [.row g1000 3 1 96 (fun _ => [sl 1 cB v11.fB, .int .i64 v11.fI, .int .i64 v11.fH])] rfl (by decide) (by simp) (by intro j o hj; exact match j, hj with | 0, hj => by cases hj; rfl | j + 1, hj => by cases hj) rfl).mono (by rintro _ _ ⟨_, _, ⟨rfl, rfl⟩, rfl, rfl⟩; exact ⟨rfl, rfl⟩), ?_⟩
      rintro _ _ ⟨rfl, rfl⟩
      refine .direct ?_
      obtain ⟨_, hm16, h⟩ := bind_some h
      refine ⟨must_some hm16, ?_⟩
      obtain rfl := Option.some.inj h
      exact ⟨[0], .int .i64 ((W64 ((W64 ((W64 (v7 * 65536)) + (W64 (v10 * 256)))) + v13)).tmod a1), [.row g1000 3 1 96 (fun _ => [sl 1 cB v14.fB, .int .i64 v14.fI, .int .i64 v14.fH])], by decide, (show 1 ≤ 1 by decide), .int_eq rfl, ⟨⟨fun _ => ⟨rfl, rfl⟩, rfl, rfl, rfl, fun _ _ => ⟨.slc_eq rfl (fun _ _ => rfl), .int_eq rfl, .int_eq rfl, trivial⟩⟩, trivial⟩, rfl, rfl⟩
def m37 (a0 : TL1Cur) (a1 : Int) : Option (Bool × TL1Cur) :=
  m40 a0 a1 >>= fun (v1, v2) =>
  some ((v1 == 0), v2)
theorem ok37 {a0 : TL1Cur} {a1 : Int} {r : Bool × TL1Cur} {g1000 : Nat} (h : m37 a0 a1 = some r) : ACall Tryd.prog 47 [.optr 0 g1000 0 0, .int .i64 a1] [.row g1000 3 1 96 (fun _ => [sl 1 cB a0.fB, .int .i64 a0.fI, .int .i64 a0.fH])] (fun res h => res = .bool r.1 ∧ h = [.row g1000 3 1 96 (fun _ => [sl 1 cB r.2.fB, .int .i64 r.2.fI, .int .i64 r.2.fH])]) := by
  refine ACall.of_vc tabT_ok mixed Tryd.func47 rfl (by kernel_rfl) _ _ _ rfl (by kernel_rfl) ?_
  unfold m37 at h
  refine .direct ?_
  refine .direct ?_
  obtain ⟨⟨v1, v2⟩, hv3, h⟩ := bind_some h
  refine ⟨fun res h' => res = .int .i64 v1 ∧ h' = [.row g1000 3 1 96 (fun _ => [sl 1 cB v2.fB, .int .i64 v2.fI, .int .i64 v2.fH])], (ACall.over (ok40 (g1000 := g1000) hv3) [0] [.row g1000 3 1 96 (fun _ => [sl 1 cB a0.fB, .int .i64 a0.fI, .int .i64 a0.fH])] rfl (by decide) (by simp) (by intro j o hj; exact match j, hj with | 0, hj => by cases hj; rfl | j + 1, hj => by cases hj) rfl).mono (by rintro _ _ ⟨_, _, ⟨rfl, rfl⟩, rfl, rfl⟩; exact ⟨rfl, rfl⟩), ?_⟩
  rintro _ _ ⟨rfl, rfl⟩
  obtain rfl := Option.some.inj h
  exact ⟨[0], .bool (v1 == 0), [.row g1000 3 1 96 (fun _ => [sl 1 cB v2.fB, .int .i64 v2.fI, .int .i64 v2.fH])], by decide, (show 1 ≤ 1 by decide), .bool_eq rfl, ⟨⟨fun _ => ⟨rfl, rfl⟩, rfl, rfl, rfl, fun _ _ => ⟨.slc_eq rfl (fun _ _ => rfl), .int_eq rfl, .int_eq rfl, trivial⟩⟩, trivial⟩, rfl, rfl⟩
def m85 (a0 : TL1Cur) (a1 : List Int) : Option (Int × TL1Cur) :=
  m40 a0 (a1.length : Int) >>= fun (v1, v2) =>
  idx a1 v1 >>= fun x4 =>
  some (x4, v2)
theorem ok85 {a0 : TL1Cur} {a1 : List Int} {r : Int × TL1Cur} {g1000 : Nat} {g1001 : Nat} (h : m85 a0 a1 = some r) : ACall Tryd.prog 86 [.optr 0 g1000 0 0, .own 1 g1001 0 a1.length] [.row g1000 3 1 96 (fun _ => [sl 1 cB a0.fB, .int .i64 a0.fI, .int .i64 a0.fH]), .row g1001 1 a1.length 3 (row cI a1)] (fun res h => res = .int .i64 r.1 ∧ h = [.row g1000 3 1 96 (fun _ => [sl 1 cB r.2.fB, .int .i64 r.2.fI, .int .i64 r.2.fH]), .row g1001 1 a1.length 3 (row cI a1)]) := by
  refine ACall.of_vc tabT_ok mixed Tryd.func86 rfl (by kernel_rfl) _ _ _ rfl (by kernel_rfl) ?_
  unfold m85 at h
  refine .direct ?_
  refine .direct ?_
  refine ⟨rfl, ?_⟩
  obtain ⟨⟨v1, v2⟩, hv3, h⟩ := bind_some h
  refine ⟨fun res h' => res = .int .i64 v1 ∧ h' = [.row g1000 3 1 96 (fun _ => [sl 1 cB v2.fB, .int .i64 v2.fI, .int .i64 v2.fH]), .row g1001 1 a1.length 3 (row cI a1)], (ACall.over (ok40 (g1000 := g1000) hv3) [0] [.row g1000 3 1 96 (fun _ => [sl 1 cB a0.fB, .int .i64 a0.fI, .int .i64 a0.fH]), .row g1001 1 a1.length 3 (row cI a1)] rfl (by decide) (by simp) (by intro j o hj; exact match j, hj with | 0, hj => by cases hj; rfl | j + 1, hj => by cases hj) rfl).mono (by rintro _ _ ⟨_, _, ⟨rfl, rfl⟩, rfl, rfl⟩; exact ⟨rfl, rfl⟩), ?_⟩
  rintro _ _ ⟨rfl, rfl⟩
  obtain ⟨x4, hx5, h⟩ := bind_some h
  refine ⟨rfl, idx_bd hx5, _, Nat.zero_add _, ?_⟩
  refine ⟨rfl, _, ((idx_row hx5).trans rfl), ?_⟩
  obtain rfl := Option.some.inj h
  exact ⟨[0, 1], .int .i64 x4, [.row g1000 3 1 96 (fun _ => [sl 1 cB v2.fB, .int .i64 v2.fI, .int .i64 v2.fH]), .row g1001 1 a1.length 3 (row cI a1)], by decide, (show 2 ≤ 2 by decide), .int_eq rfl, ⟨⟨fun _ => ⟨rfl, rfl⟩, rfl, rfl, rfl, fun _ _ => ⟨.slc_eq rfl (fun _ _ => rfl), .int_eq rfl, .int_eq rfl, trivial⟩⟩, ⟨fun _ => ⟨rfl, rfl⟩, rfl, rfl, rfl, fz_row cI_pure⟩, trivial⟩, rfl, rfl⟩
def m39 (a0 : TL1Cur) (a1 : List Str) : Option (Str × TL1Cur) :=
  m40 a0 (a1.length : Int) >>= fun (v1, v2) =>
  idx a1 v1 >>= fun x4 =>
  some (x4, v2)
theorem ok39 {a0 : TL1Cur} {a1 : List Str} {r : Str × TL1Cur} {g1000 : Nat} {g1001 : Nat} (h : m39 a0 a1 = some r) : ACall Tryd.prog 62 [.optr 0 g1000 0 0, .own 1 g1001 0 a1.length] [.row g1000 3 1 96 (fun _ => [sl 1 cB a0.fB, .int .i64 a0.fI, .int .i64 a0.fH]), .row g1001 1 a1.length 9 (row cS a1)] (fun res h => res = .str r.1 ∧ h = [.row g1000 3 1 96 (fun _ => [sl 1 cB r.2.fB, .int .i64 r.2.fI, .int .i64 r.2.fH]), .row g1001 1 a1.length 9 (row cS a1)]) := by
  refine ACall.of_vc tabT_ok mixed Tryd.func62 rfl (by kernel_rfl) _ _ _ rfl (by kernel_rfl) ?_
  unfold m39 at h
  refine .direct ?_
  refine .direct ?_
  refine ⟨rfl, ?_⟩
  obtain ⟨⟨v1, v2⟩, hv3, h⟩ := bind_some h
  refine ⟨fun res h' => res = .int .i64 v1 ∧ h' = [.row g1000 3 1 96 (fun _ => [sl 1 cB v2.fB, .int .i64 v2.fI, .int .i64 v2.fH]), .row g1001 1 a1.length 9 (row cS a1)], (ACall.over (ok40 (g1000 := g1000) hv3) [0] [.row g1000 3 1 96 (fun _ => [sl 1 cB a0.fB, .int .i64 a0.fI, .int .i64 a0.fH]), .row g1001 1 a1.length 9 (row cS a1)] rfl (by decide) (by simp) (by intro j o hj; exact match j, hj with | 0, hj => by cases hj; rfl | j + 1, hj => by cases hj) rfl).mono (by rintro _ _ ⟨_, _, ⟨rfl, rfl⟩, rfl, rfl⟩; exact ⟨rfl, rfl⟩), ?_⟩
  rintro _ _ ⟨rfl, rfl⟩
  obtain ⟨x4, hx5, h⟩ := bind_some h
  refine ⟨rfl, idx_bd hx5, _, Nat.zero_add _, ?_⟩
  refine ⟨rfl, _, ((idx_row hx5).trans rfl), ?_⟩
  obtain rfl := Option.some.inj h
  exact ⟨[0, 1], .str x4, [.row g1000 3 1 96 (fun _ => [sl 1 cB v2.fB, .int .i64 v2.fI, .int .i64 v2.fH]), .row g1001 1 a1.length 9 (row cS a1)], by decide, (show 2 ≤ 2 by decide), .str_eq rfl, ⟨⟨fun _ => ⟨rfl, rfl⟩, rfl, rfl, rfl, fun _ _ => ⟨.slc_eq rfl (fun _ _ => rfl), .int_eq rfl, .int_eq rfl, trivial⟩⟩, ⟨fun _ => ⟨rfl, rfl⟩, rfl, rfl, rfl, fz_row cS_pure⟩, trivial⟩, rfl, rfl⟩
def m107 (a0 : TL1Cur) : Option (Str × TL1Cur) :=
  m39 a0 ([[], [97], [98], [120, 49], [48], [53], [45, 53], [48, 53], [45, 48], [49, 50, 97], [48, 48, 55], [49, 48, 48, 48, 48, 48, 48, 48, 48, 48], [49, 48, 48, 48, 48, 48, 48, 48, 48, 49], [32, 49], [105, 116, 39, 115], [10], [60, 105, 62], [255, 59], [110, 97, 109, 101], [115, 58, 49, 58]] : List Str) >>= fun (v1, v2) =>
  some (v1, v2)
theorem ok107 {a0 : TL1Cur} {r : Str × TL1Cur} {g1000 : Nat} (h : m107 a0 = some r) : ACall Tryd.prog 110 [.optr 0 g1000 0 0] [.row g1000 3 1 96 (fun _ => [sl 1 cB a0.fB, .int .i64 a0.fI, .int .i64 a0.fH])] (fun res h => res = .str r.1 ∧ h = [.row g1000 3 1 96 (fun _ => [sl 1 cB r.2.fB, .int .i64 r.2.fI, .int .i64 r.2.fH])]) := by
  refine ACall.of_vc tabT_ok mixed Tryd.func110 rfl (by kernel_rfl) _ _ _ rfl (by kernel_rfl) ?_
  unfold m107 at h
  refine .direct ?_
  refine .direct ?_
  refine ⟨row cS ([[], [97], [98], [120, 49], [48], [53], [45, 53], [48, 53], [45, 48], [49, 50, 97], [48, 48, 55], [49, 48, 48, 48, 48, 48, 48, 48, 48, 48], [49, 48, 48, 48, 48, 48, 48, 48, 48, 49], [32, 49], [105, 116, 39, 115], [10], [60, 105, 62], [255, 59], [110, 97, 109, 101], [115, 58, 49, 58]] : List Str), row_lit cS ([[], [97], [98], [120, 49], [48], [53], [45, 53], [48, 53], [45, 48], [49, 50, 97], [48, 48, 55], [49, 48, 48, 48, 48, 48, 48, 48, 48, 48], [49, 48, 48, 48, 48, 48, 48, 48, 48, 49], [32, 49], [105, 116, 39, 115], [10], [60, 105, 62], [255, 59], [110, 97, 109, 101], [115, 58, 49, 58]] : List Str) rfl (cll_refl rfl), ?_⟩
  obtain ⟨⟨v1, v2⟩, hv3, h⟩ := bind_some h
  refine ⟨fun res h' => res = .str v1 ∧ h' = [.row g1000 3 1 96 (fun _ => [sl 1 cB v2.fB, .int .i64 v2.fI, .int .i64 v2.fH]), .row 0 1 ([[], [97], [98], [120, 49], [48], [53], [45, 53], [48, 53], [45, 48], [49, 50, 97], [48, 48, 55], [49, 48, 48, 48, 48, 48, 48, 48, 48, 48], [49, 48, 48, 48, 48, 48, 48, 48, 48, 49], [32, 49], [105, 116, 39, 115], [10], [60, 105, 62], [255, 59], [110, 97, 109, 101], [115, 58, 49, 58]] : List Str).length 9 (row cS ([[], [97], [98], [120, 49], [48], [53], [45, 53], [48, 53], [45, 48], [49, 50, 97], [48, 48, 55], [49, 48, 48, 48, 48, 48, 48, 48, 48, 48], [49, 48, 48, 48, 48, 48, 48, 48, 48, 49], [32, 49], [105, 116, 39, 115], [10], [60, 105, 62], [255, 59], [110, 97, 109, 101], [115, 58, 49, 58]] : List Str))], (ACall.over (ok39 (g1000 := g1000) (g1001 := 0) hv3) [0, 1] [.row g1000 3 1 96 (fun _ => [sl 1 cB a0.fB, .int .i64 a0.fI, .int .i64 a0.fH]), .row 0 1 ([[], [97], [98], [120, 49], [48], [53], [45, 53], [48, 53], [45, 48], [49, 50, 97], [48, 48, 55], [49, 48, 48, 48, 48, 48, 48, 48, 48, 48], [49, 48, 48, 48, 48, 48, 48, 48, 48, 49], [32, 49], [105, 116, 39, 115], [10], [60, 105, 62], [255, 59], [110, 97, 109, 101], [115, 58, 49, 58]] : List Str).length 9 (row cS ([[], [97], [98], [120, 49], [48], [53], [45, 53], [48, 53], [45, 48], [49, 50, 97], [48, 48, 55], [49, 48, 48, 48, 48, 48, 48, 48, 48, 48], [49, 48, 48, 48, 48, 48, 48, 48, 48, 49], [32, 49], [105, 116, 39, 115], [10], [60, 105, 62], [255, 59], [110, 97, 109, 101], [115, 58, 49, 58]] : List Str))] rfl (by decide) (by simp) (by intro j o hj; exact match j, hj with | 0, hj => by cases hj; rfl | 1, hj => by cases hj; exact (congrArg some (renO_row cS_pure _ _ _ _ _ _)).symm | j + 2, hj => by cases hj) rfl).mono (by rintro _ _ ⟨_, _, ⟨rfl, rfl⟩, rfl, rfl⟩; exact ⟨rfl, (by simp only [nxtL, putSel, List.map_cons, List.map_nil, List.drop, List.length_cons, List.length_nil, renO_row cS_pure]; rfl)⟩), ?_⟩
  rintro _ _ ⟨rfl, rfl⟩
  obtain rfl := Option.some.inj h
  exact ⟨[0], .str v1, [.row g1000 3 1 96 (fun _ => [sl 1 cB v2.fB, .int .i64 v2.fI, .int .i64 v2.fH])], by decide, (show 1 ≤ 1 by decide), .str_eq rfl, ⟨⟨fun _ => ⟨rfl, rfl⟩, rfl, rfl, rfl, fun _ _ => ⟨.slc_eq rfl (fun _ _ => rfl), .int_eq rfl, .int_eq rfl, trivial⟩⟩, trivial⟩, rfl, rfl⟩
def m47 (a0 : TL1Cur) : Option (TKey × TL1Cur) :=
  m37 a0 3 >>= fun (v1, v2) =>
  (if v1 = true then
    m39 v2 ([[97], [98], [99], [], [48, 53], [120]] : List Str) >>= fun (v5, v6) =>
    some ((TKey.mk true 0 v5), v6)
  else
    m85 v2 ([0, 1, 2, 3, 4, (-1), 7, 1000000000, (-1000000000)] : List Int) >>= fun (v8, v9) =>
    some ((TKey.mk false v8 []), v9))
theorem ok47 {a0 : TL1Cur} {r : TKey × TL1Cur} {g1000 : Nat} (h : m47 a0 = some r) : ACall Tryd.prog 74 [.optr 0 g1000 0 0] [.row g1000 3 1 96 (fun _ => [sl 1 cB a0.fB, .int .i64 a0.fI, .int .i64 a0.fH])] (fun res h => res = .agg [.bool r.1.fText, .int .i64 r.1.fNum, .str r.1.fStr] ∧ h = [.row g1000 3 1 96 (fun _ => [sl 1 cB r.2.fB, .int .i64 r.2.fI, .int .i64 r.2.fH])]) := by
  refine ACall.of_vc tabT_ok mixed Tryd.func74 rfl (by kernel_rfl) _ _ _ rfl (by kernel_rfl) ?_
  unfold m47 at h
  refine .direct ?_
  refine .direct ?_
  refine .direct ?_
  obtain ⟨⟨v1, v2⟩, hv3, h⟩ := bind_some h
  refine ⟨fun res h' => res = .bool v1 ∧ h' = [.row g1000 3 1 96 (fun _ => [sl 1 cB v2.fB, .int .i64 v2.fI, .int .i64 v2.fH]), .row 0 3 1 32 (fun _ => [.bool false, .int .i64 0, .str []])], (ACall.over (ok37 (g1000 := g1000) hv3) [0] [.row g1000 3 1 96 (fun _ => [sl 1 cB a0.fB, .int .i64 a0.fI, .int .i64 a0.fH]), .row 0 3 1 32 (fun _ => [.bool false, .int .i64 0, .str []])] rfl (by decide) (by simp) (by intro j o hj; exact match j, hj with | 0, hj => by cases hj; rfl | j + 1, hj => by cases hj) rfl).mono (by rintro _ _ ⟨_, _, ⟨rfl, rfl⟩, rfl, rfl⟩; exact ⟨rfl, rfl⟩), ?_⟩
  rintro _ _ ⟨rfl, rfl⟩
  refine splitB.mk (fun hb4 => ?_) (fun hb4 => ?_)
  · replace h := T_var hb4 h
    refine .direct ?_
    refine ⟨row cS ([[97], [98], [99], [], [48, 53], [120]] : List Str), row_lit cS ([[97], [98], [99], [], [48, 53], [120]] : List Str) rfl (cll_refl rfl), ?_⟩
    obtain ⟨⟨v5, v6⟩, hv7, h⟩ := bind_some h
    refine ⟨fun res h' => res = .str v5 ∧ h' = [.row g1000 3 1 96 (fun _ => [sl 1 cB v6.fB, .int .i64 v6.fI, .int .i64 v6.fH]), .row 0 3 1 32 (fun _ => [.bool false, .int .i64 0, .str []]), .row 0 1 ([[97], [98], [99], [], [48, 53], [120]] : List Str).length 9 (row cS ([[97], [98], [99], [], [48, 53], [120]] : List Str))], (ACall.over (ok39 (g1000 := g1000) (g1001 := 0) hv7) [0, 2] [.row g1000 3 1 96 (fun _ => [sl 1 cB v2.fB, .int .i64 v2.fI, .int .i64 v2.fH]), .row 0 3 1 32 (fun _ => [.bool false, .int .i64 0, .str []]), .row 0 1 ([[97], [98], [99], [], [48, 53], [120]] : List Str).length 9 (row cS ([[97], [98], [99], [], [48, 53], [120]] : List Str))] rfl (by decide) (by simp) (by intro j o hj; exact match j, hj with | 0, hj => by cases hj; rfl | 1, hj => by cases hj; exact (congrArg some (renO_row cS_pure _ _ _ _ _ _)).symm | j + 2, hj => by cases hj) rfl).mono (by rintro _ _ ⟨_, _, ⟨rfl, rfl⟩, rfl, rfl⟩; exact ⟨rfl, (by simp only [nxtL, putSel, List.map_cons, List.map_nil, List.drop, List.length_cons, List.length_nil, renO_row cS_pure]; rfl)⟩), ?_⟩
    rintro _ _ ⟨rfl, rfl⟩
    refine ⟨rfl, _, fun _ => [.bool true, .int .i64 0, .str v5], rfl, one_set rfl, ?_⟩
    obtain rfl := Option.some.inj h
    refine ⟨rfl, _, rfl, ?_⟩
    exact ⟨[0], .agg [.bool ((TKey.mk true 0 v5).fText), .int .i64 ((TKey.mk true 0 v5).fNum), .str ((TKey.mk true 0 v5).fStr)], [.row g1000 3 1 96 (fun _ => [sl 1 cB v6.fB, .int .i64 v6.fI, .int .i64 v6.fH])], by decide, (show 1 ≤ 1 by decide), .agg_l ⟨.bool_eq rfl, .int_eq rfl, .str_eq rfl, trivial⟩, ⟨⟨fun _ => ⟨rfl, rfl⟩, rfl, rfl, rfl, fun _ _ => ⟨.slc_eq rfl (fun _ _ => rfl), .int_eq rfl, .int_eq rfl, trivial⟩⟩, trivial⟩, rfl, rfl⟩
  · replace h := F_var hb4 h
    refine .direct ?_
    refine ⟨row cI ([0, 1, 2, 3, 4, (-1), 7, 1000000000, (-1000000000)] : List Int), row_lit cI ([0, 1, 2, 3, 4, (-1), 7, 1000000000, (-1000000000)] : List Int) rfl (cll_refl rfl), ?_⟩
    obtain ⟨⟨v8, v9⟩, hv10, h⟩ := bind_some h
    refine ⟨fun res h' => res = .int .i64 v8 ∧ h' = [.row g1000 3 1 96 (fun _ => [sl 1 cB v9.fB, .int .i64 v9.fI, .int .i64 v9.fH]), .row 0 3 1 32 (fun _ => [.bool false, .int .i64 0, .str []]), .row 0 1 ([0, 1, 2, 3, 4, (-1), 7, 1000000000, (-1000000000)] : List Int).length 3 (row cI ([0, 1, 2, 3, 4, (-1), 7, 1000000000, (-1000000000)] : List Int))], (ACall.over (ok85 (g1000 := g1000) (g1001 := 0) hv10) [0, 2] [.row g1000 3 1 96 (fun _ => [sl 1 cB v2.fB, .int .i64 v2.fI, .int .i64 v2.fH]), .row 0 3 1 32 (fun _ => [.bool false, .int .i64 0, .str []]), .row 0 1 ([0, 1, 2, 3, 4, (-1), 7, 1000000000, (-1000000000)] : List Int).length 3 (row cI ([0, 1, 2, 3, 4, (-1), 7, 1000000000, (-1000000000)] : List Int))] rfl (by decide) (by simp) (by intro j o hj; exact match j, hj with | 0, hj => by cases hj; rfl | 1, hj => by cases hj; exact (congrArg some (renO_row cI_pure _ _ _ _ _ _)).symm | j + 2, hj => by cases hj) rfl).mono (by rintro _ _ ⟨_, _, ⟨rfl, rfl⟩, rfl, rfl⟩; exact ⟨rfl, (by simp only [nxtL, putSel, List.map_cons, List.map_nil, List.drop, List.length_cons, List.length_nil, renO_row cI_pure]; rfl)⟩), ?_⟩
    rintro _ _ ⟨rfl, rfl⟩
    refine ⟨rfl, _, fun _ => [.bool false, .int .i64 v8, .str []], rfl, one_set rfl, ?_⟩
    obtain rfl := Option.some.inj h
    refine ⟨rfl, _, rfl, ?_⟩
    exact ⟨[0], .agg [.bool ((TKey.mk false v8 []).fText), .int .i64 ((TKey.mk false v8 []).fNum), .str ((TKey.mk false v8 []).fStr)], [.row g1000 3 1 96 (fun _ => [sl 1 cB v9.fB, .int .i64 v9.fI, .int .i64 v9.fH])], by decide, (show 1 ≤ 1 by decide), .agg_l ⟨.bool_eq rfl, .int_eq rfl, .str_eq rfl, trivial⟩, ⟨⟨fun _ => ⟨rfl, rfl⟩, rfl, rfl, rfl, fun _ _ => ⟨.slc_eq rfl (fun _ _ => rfl), .int_eq rfl, .int_eq rfl, trivial⟩⟩, trivial⟩, rfl, rfl⟩
def m48 (a0 : TL1Cur) : Option (Int × TL1Cur) :=
  m85 a0 ([(-1), 0, 1, 2, 255, 256, 65535, 2147483647, 2147483648, 4294967295, 4294967296, (-2147483648), 9223372036854775807, (-9223372036854775808)] : List Int) >>= fun (v1, v2) =>
  some (v1, v2)
theorem ok48 {a0 : TL1Cur} {r : Int × TL1Cur} {g1000 : Nat} (h : m48 a0 = some r) : ACall Tryd.prog 85 [.optr 0 g1000 0 0] [.row g1000 3 1 96 (fun _ => [sl 1 cB a0.fB, .int .i64 a0.fI, .int .i64 a0.fH])] (fun res h => res = .int .i64 r.1 ∧ h = [.row g1000 3 1 96 (fun _ => [sl 1 cB r.2.fB, .int .i64 r.2.fI, .int .i64 r.2.fH])]) := by
  refine ACall.of_vc tabT_ok mixed Tryd.func85 rfl (by kernel_rfl) _ _ _ rfl (by kernel_rfl) ?_
  unfold m48 at h
  refine .direct ?_
  refine .direct ?_
  refine ⟨row cI ([(-1), 0, 1, 2, 255, 256, 65535, 2147483647, 2147483648, 4294967295, 4294967296, (-2147483648), 9223372036854775807, (-9223372036854775808)] : List Int), row_lit cI ([(-1), 0, 1, 2, 255, 256, 65535, 2147483647, 2147483648, 4294967295, 4294967296, (-2147483648), 9223372036854775807, (-9223372036854775808)] : List Int) rfl (cll_refl rfl), ?_⟩
  obtain ⟨⟨v1, v2⟩, hv3, h⟩ := bind_some h
  refine ⟨fun res h' => res = .int .i64 v1 ∧ h' = [.row g1000 3 1 96 (fun _ => [sl 1 cB v2.fB, .int .i64 v2.fI, .int .i64 v2.fH]), .row 0 1 ([(-1), 0, 1, 2, 255, 256, 65535, 2147483647, 2147483648, 4294967295, 4294967296, (-2147483648), 9223372036854775807, (-9223372036854775808)] : List Int).length 3 (row cI ([(-1), 0, 1, 2, 255, 256, 65535, 2147483647, 2147483648, 4294967295, 4294967296, (-2147483648), 9223372036854775807, (-9223372036854775808)] : List Int))], (ACall.over (ok85 (g1000 := g1000) (g1001 := 0) hv3) [0, 1] [.row g1000 3 1 96 (fun _ => [sl 1 cB a0.fB, .int .i64 a0.fI, .int .i64 a0.fH]), .row 0 1 ([(-1), 0, 1, 2, 255, 256, 65535, 2147483647, 2147483648, 4294967295, 4294967296, (-2147483648), 9223372036854775807, (-9223372036854775808)] : List Int).length 3 (row cI ([(-1), 0, 1, 2, 255, 256, 65535, 2147483647, 2147483648, 4294967295, 4294967296, (-2147483648), 9223372036854775807, (-9223372036854775808)] : List Int))] rfl (by decide) (by simp) (by intro j o hj; exact match j, hj with | 0, hj => by cases hj; rfl | 1, hj => by cases hj; exact (congrArg some (renO_row cI_pure _ _ _ _ _ _)).symm | j + 2, hj => by cases hj) rfl).mono (by rintro _ _ ⟨_, _, ⟨rfl, rfl⟩, rfl, rfl⟩; exact ⟨rfl, (by simp only [nxtL, putSel, List.map_cons, List.map_nil, List.drop, List.length_cons, List.length_nil, renO_row cI_pure]; rfl)⟩), ?_⟩
  rintro _ _ ⟨rfl, rfl⟩
  obtain rfl := Option.some.inj h
  exact ⟨[0], .int .i64 v1, [.row g1000 3 1 96 (fun _ => [sl 1 cB v2.fB, .int .i64 v2.fI, .int .i64 v2.fH])], by decide, (show 1 ≤ 1 by decide), .int_eq rfl, ⟨⟨fun _ => ⟨rfl, rfl⟩, rfl, rfl, rfl, fun _ _ => ⟨.slc_eq rfl (fun _ _ => rfl), .int_eq rfl, .int_eq rfl, trivial⟩⟩, trivial⟩, rfl, rfl⟩
def m90_L2 (a0 : TValue) (a1 : TKey) (y4 : Int) : Option ((Unit) ⊕ Int) :=
  (if a0.fKind = 4 then
    (if y4 < (a0.fItems.length : Int) then
      idx a0.fItems y4 >>= fun x9 =>
      (if x9.fKey = a1 then
        some (.inr y4)
      else
        m90_L2 a0 a1 (W64 (y4 + 1)))
    else
      some (.inl ()))
  else
    some (.inl ()))
partial_fixpoint
def m90 (a0 : TValue) (a1 : TKey) : Option (Int) :=
  ((
    m90_L2 a0 a1 0
   : Option ((Unit) ⊕ Int)) >>= fun o1 => match o1 with
    | .inr r => some r
    | .inl _ =>
      some (-1)
  )
theorem ok90 {a0 : TValue} {a1 : TKey} {r : Int} (h : m90 a0 a1 = some r) : ACall Tryd.prog 75 [.agg [.int .i64 a0.fKind, .int .i64 a0.fNum, .str a0.fStr, .int .i64 a0.fNext, sl 8 TEntry.cells a0.fItems], .agg [.bool a1.fText, .int .i64 a1.fNum, .str a1.fStr]] [] (fun res h => res = .int .i64 r ∧ h = []) := by
  refine ACall.of_vc tabT_ok mixed Tryd.func75 rfl (by kernel_rfl) _ _ _ rfl (by kernel_rfl) ?_
  unfold m90 at h
  refine .direct ?_
  obtain ⟨o1, ho2, hk3⟩ := bind_some h
  replace h := ho2
  refine .cut (fun σ η => .inl () = o1 ∧ σ = [] ∧ η = []) ?_ ?_
  · refine .direct ?_
    refine LoopAt.enter [(2, .optr 0 0 0 0), (3, .optr 1 0 0 0), (5, .int .i64 0)] [.row 0 5 1 26 (fun _ => [.int .i64 a0.fKind, .int .i64 a0.fNum, .str a0.fStr, .int .i64 a0.fNext, sl 8 TEntry.cells a0.fItems]), .row 0 3 1 32 (fun _ => [.bool a1.fText, .int .i64 a1.fNum, .str a1.fStr])] ⟨[0, 1], by decide, (show 0 ≤ 2 by decide), ⟨.optr_eq rfl ⟨_, _, _, _, rfl⟩ ⟨_, _, _, _, rfl⟩ rfl rfl, .optr_eq rfl ⟨_, _, _, _, rfl⟩ ⟨_, _, _, _, rfl⟩ rfl rfl, .int_eq rfl, trivial⟩, ⟨⟨fun h0 => absurd (show 0 < 0 from h0) (by decide), rfl, rfl, rfl, fun _ _ => ⟨.int_eq rfl, .int_eq rfl, .str_eq rfl, .int_eq rfl, .slc_eq rfl (fun _ _ => rfl), trivial⟩⟩, ⟨fun h0 => absurd (show 1 < 0 from h0) (by decide), rfl, rfl, rfl, fun _ _ => ⟨.bool_eq rfl, .int_eq rfl, .str_eq rfl, trivial⟩⟩, trivial⟩⟩ ?_
    refine m90_L2.partial_correctness a0 a1 (motive := fun y4 o12 => o1 = o12 → LoopAt _ _ [(2, .optr 0 0 0 0), (3, .optr 1 0 0 0), (5, .int .i64 y4)] [.row 0 5 1 26 (fun _ => [.int .i64 a0.fKind, .int .i64 a0.fNum, .str a0.fStr, .int .i64 a0.fNext, sl 8 TEntry.cells a0.fItems]), .row 0 3 1 32 (fun _ => [.bool a1.fText, .int .i64 a1.fNum, .str a1.fStr])]) ?_ 0 o1 h rfl
    intro F6 ih5 y4 o12 h hr13
    subst hr13
    refine LoopAt.round ?_
    refine .direct ?_
    refine .direct ?_
    refine ⟨rfl, ?_⟩
    refine ⟨rfl, _, rfl, ?_⟩
    refine splitB.mk (fun hb7 => ?_) (fun hb7 => ?_)
    · replace h := T_beq hb7 h
      refine splitB_t ?_
      refine ⟨rfl, ?_⟩
      refine splitB_t ?_
      refine ⟨rfl, _, rfl, ?_⟩
      refine splitB_t ?_
      refine splitB_t ?_
      refine splitB_t ?_
      refine splitB.mk (fun hb8 => ?_) (fun hb8 => ?_)
      · replace h := T_dec hb8 h
        refine .direct ?_
        refine .direct ?_
        refine ⟨rfl, ?_⟩
        refine ⟨rfl, _, rfl, ?_⟩
        obtain ⟨x9, hx10, h⟩ := bind_some h
        refine ⟨idx_bd hx10, _, (idx_row hx10).trans (TEntry.cells_eq x9), ?_⟩
        refine ⟨rfl, _, rfl, ?_⟩
        refine ⟨_, TKey.eq_cells x9.fKey a1, ?_⟩
        refine splitB.mk (fun hb11 => ?_) (fun hb11 => ?_)
        · replace h := T_dec hb11 h
          refine .direct ?_
          obtain rfl := Option.some.inj h
          replace h := hk3
          obtain rfl := Option.some.inj h
          exact ⟨[], .int .i64 y4, [], by decide, (show 0 ≤ 0 by decide), .int_eq rfl, trivial, rfl, rfl⟩
        · replace h := F_dec hb11 h
          exact ⟨[(2, .optr 0 0 0 0), (3, .optr 1 0 0 0), (5, .int .i64 (W64 (y4 + 1)))], [.row 0 5 1 26 (fun _ => [.int .i64 a0.fKind, .int .i64 a0.fNum, .str a0.fStr, .int .i64 a0.fNext, sl 8 TEntry.cells a0.fItems]), .row 0 3 1 32 (fun _ => [.bool a1.fText, .int .i64 a1.fNum, .str a1.fStr])], ⟨[0, 1], by decide, (show 0 ≤ 2 by decide), ⟨.optr_eq rfl ⟨_, _, _, _, rfl⟩ ⟨_, _, _, _, rfl⟩ rfl rfl, .optr_eq rfl ⟨_, _, _, _, rfl⟩ ⟨_, _, _, _, rfl⟩ rfl rfl, .int_eq rfl, trivial⟩, ⟨⟨fun h0 => absurd (show 0 < 0 from h0) (by decide), rfl, rfl, rfl, fun _ _ => ⟨.int_eq rfl, .int_eq rfl, .str_eq rfl, .int_eq rfl, .slc_eq rfl (fun _ _ => rfl), trivial⟩⟩, ⟨fun h0 => absurd (show 1 < 0 from h0) (by decide), rfl, rfl, rfl, fun _ _ => ⟨.bool_eq rfl, .int_eq rfl, .str_eq rfl, trivial⟩⟩, trivial⟩⟩, ih5 _ _ h rfl⟩
      · replace h := F_dec hb8 h
        exact ⟨[], [], ⟨[], by decide, (show 0 ≤ 0 by decide), trivial, trivial⟩, Option.some.inj h, rfl, rfl⟩
    · replace h := F_beq hb7 h
      refine splitB_f ?_
      refine splitB_f ?_
      refine splitB_f ?_
      refine splitB_f ?_
      refine splitB_f ?_
      refine splitB_f ?_
      exact ⟨[], [], ⟨[], by decide, (show 0 ≤ 0 by decide), trivial, trivial⟩, Option.some.inj h, rfl, rfl⟩
  · rintro _ _ ⟨rfl, rfl, rfl⟩
    replace h := hk3
    refine .direct ?_
    obtain rfl := Option.some.inj h
    exact ⟨[], .int .i64 (-1), [], by decide, (show 0 ≤ 0 by decide), .int_eq rfl, trivial, rfl, rfl⟩
def m27_L2 (a0 : TValue) (a1 : TKey) (y5 : Int) : Option ((Unit) ⊕ Int) :=
  (if y5 < (a0.fItems.length : Int) then
    idx a0.fItems y5 >>= fun x9 =>
    (if x9.fKey = a1 then
      some (.inr y5)
    else
      m27_L2 a0 a1 (W64 (y5 + 1)))
  else
    some (.inl ()))
partial_fixpoint
def m27 (a0 : TValue) (a1 : TKey) : Option (Int) :=
  (if a0.fKind = 4 then
    ((
      m27_L2 a0 a1 0
     : Option ((Unit) ⊕ Int)) >>= fun o2 => match o2 with
      | .inr r => some r
      | .inl _ =>
        some (-1)
    )
  else
    some (-1))
theorem ok27 {a0 : TValue} {a1 : TKey} {r : Int} (h : m27 a0 a1 = some r) : ACall Tryd.prog 38 [.agg [.int .i64 a0.fKind, .int .i64 a0.fNum, .str a0.fStr, .int .i64 a0.fNext, sl 8 TEntry.cells a0.fItems], .agg [.bool a1.fText, .int .i64 a1.fNum, .str a1.fStr]] [] (fun res h => res = .int .i64 r ∧ h = []) := by
  refine ACall.of_vc tabT_ok mixed Tryd.func38 rfl (by kernel_rfl) _ _ _ rfl (by kernel_rfl) ?_
  unfold m27 at h
  refine .direct ?_
  refine .direct ?_
  refine .direct ?_
  refine ⟨rfl, ?_⟩
  refine ⟨rfl, _, rfl, ?_⟩
  refine splitB.mk (fun hb1 => ?_) (fun hb1 => ?_)
  · replace h := T_bne hb1 h
    refine .direct ?_
    obtain rfl := Option.some.inj h
    exact ⟨[], .int .i64 (-1), [], by decide, (show 0 ≤ 0 by decide), .int_eq rfl, trivial, rfl, rfl⟩
  · replace h := F_bne hb1 h
    obtain ⟨o2, ho3, hk4⟩ := bind_some h
    replace h := ho3
    refine .cut (fun σ η => .inl () = o2 ∧ σ = [] ∧ η = []) ?_ ?_
    · refine .direct ?_
      refine ⟨rfl, ?_⟩
      refine ⟨rfl, _, rfl, ?_⟩
      refine LoopAt.enter [(3, .optr 0 0 0 0), (11, sl 8 TEntry.cells a0.fItems), (12, .int .i64 (a0.fItems.length : Int)), (13, .int .i64 0)] [.row 0 3 1 32 (fun _ => [.bool a1.fText, .int .i64 a1.fNum, .str a1.fStr])] ⟨[1], by decide, (show 0 ≤ 1 by decide), ⟨.optr_eq rfl ⟨_, _, _, _, rfl⟩ ⟨_, _, _, _, rfl⟩ rfl rfl, .slc_eq rfl (fun _ _ => rfl), .int_eq rfl, .int_eq rfl, trivial⟩, ⟨⟨fun h0 => absurd (show 0 < 0 from h0) (by decide), rfl, rfl, rfl, fun _ _ => ⟨.bool_eq rfl, .int_eq rfl, .str_eq rfl, trivial⟩⟩, trivial⟩⟩ ?_
      refine m27_L2.partial_correctness a0 a1 (motive := fun y5 o12 => o2 = o12 → LoopAt _ _ [(3, .optr 0 0 0 0), (11, sl 8 TEntry.cells a0.fItems), (12, .int .i64 (a0.fItems.length : Int)), (13, .int .i64 y5)] [.row 0 3 1 32 (fun _ => [.bool a1.fText, .int .i64 a1.fNum, .str a1.fStr])]) ?_ 0 o2 h rfl
      intro F7 ih6 y5 o12 h hr13
      subst hr13
      refine LoopAt.round ?_
      refine .direct ?_
      refine .direct ?_
      refine splitB.mk (fun hb8 => ?_) (fun hb8 => ?_)
      · replace h := T_dec hb8 h
        refine .direct ?_
        refine .direct ?_
        obtain ⟨x9, hx10, h⟩ := bind_some h
        refine ⟨idx_bd hx10, _, (idx_row hx10).trans (TEntry.cells_eq x9), ?_⟩
        refine ⟨rfl, _, fun _ => [.bool x9.fKey.fText, .int .i64 x9.fKey.fNum, .str x9.fKey.fStr, .int .i64 x9.fVal.fKind, .int .i64 x9.fVal.fNum, .str x9.fVal.fStr, .int .i64 x9.fVal.fNext, sl 8 TEntry.cells x9.fVal.fItems], rfl, one_set rfl, ?_⟩
        refine .direct ?_
        refine ⟨rfl, ?_⟩
        refine ⟨rfl, _, rfl, ?_⟩
        refine ⟨rfl, _, rfl, ?_⟩
        refine ⟨_, TKey.eq_cells x9.fKey a1, ?_⟩
        refine splitB.mk (fun hb11 => ?_) (fun hb11 => ?_)
        · replace h := T_dec hb11 h
          refine .direct ?_
          obtain rfl := Option.some.inj h
          replace h := hk4
          obtain rfl := Option.some.inj h
          exact ⟨[], .int .i64 y5, [], by decide, (show 0 ≤ 0 by decide), .int_eq rfl, trivial, rfl, rfl⟩
        · replace h := F_dec hb11 h
          exact ⟨[(3, .optr 0 0 0 0), (11, sl 8 TEntry.cells a0.fItems), (12, .int .i64 (a0.fItems.length : Int)), (13, .int .i64 (W64 (y5 + 1)))], [.row 0 3 1 32 (fun _ => [.bool a1.fText, .int .i64 a1.fNum, .str a1.fStr])], ⟨[0], by decide, (show 0 ≤ 1 by decide), ⟨.optr_eq rfl ⟨_, _, _, _, rfl⟩ ⟨_, _, _, _, rfl⟩ rfl rfl, .slc_eq rfl (fun _ _ => rfl), .int_eq rfl, .int_eq rfl, trivial⟩, ⟨⟨fun h0 => absurd (show 0 < 0 from h0) (by decide), rfl, rfl, rfl, fun _ _ => ⟨.bool_eq rfl, .int_eq rfl, .str_eq rfl, trivial⟩⟩, trivial⟩⟩, ih6 _ _ h rfl⟩
      · replace h := F_dec hb8 h
        exact ⟨[], [], ⟨[], by decide, (show 0 ≤ 0 by decide), trivial, trivial⟩, Option.some.inj h, rfl, rfl⟩
    · rintro _ _ ⟨rfl, rfl, rfl⟩
      replace h := hk4
      refine .direct ?_
      obtain rfl := Option.some.inj h
      exact ⟨[], .int .i64 (-1), [], by decide, (show 0 ≤ 0 by decide), .int_eq rfl, trivial, rfl, rfl⟩
def m56 (a0 : TValue) (a1 : TKey) (a2 : TValue) : Option (TValue) :=
  m27 a0 a1 >>= fun v1 =>
  (if v1 ≥ 0 then
    idx a0.fItems v1 >>= fun x4 =>
    some (TValue.mk a0.fKind a0.fNum a0.fStr a0.fNext (a0.fItems.set v1.toNat (TEntry.mk x4.fKey a2)))
  else
    (
      lapp 96 a0.fItems ([(TEntry.mk (TKey.mk false 0 []) (TValue.mk 0 0 [] 0 []))] : List TEntry) >>= fun l10 =>
      idx l10 (a0.fItems.length : Int) >>= fun x12 =>
      some (l10.set ((a0.fItems.length : Int).toNat) (TEntry.mk a1 a2))
     : Option ((List TEntry))) >>= fun l6 =>
    (if a1.fText = true then
      some (TValue.mk a0.fKind a0.fNum a0.fStr a0.fNext l6)
    else
      m93 a0.fNext (W64 (a1.fNum + 1)) >>= fun v15 =>
      some (TValue.mk a0.fKind a0.fNum a0.fStr v15 l6)))
theorem ok56 {a0 : TValue} {a1 : TKey} {a2 : TValue} {r : TValue} {g1000 : Nat} {g1001 : Nat} (h : m56 a0 a1 a2 = some r) : ACall Tryd.prog 39 [.optr 0 g1000 0 0, .agg [.bool a1.fText, .int .i64 a1.fNum, .str a1.fStr], .agg [.int .i64 a2.fKind, .int .i64 a2.fNum, .str a2.fStr, .int .i64 a2.fNext, sl 8 TEntry.cells a2.fItems]] [.row g1000 5 1 26 (fun _ => [.int .i64 a0.fKind, .int .i64 a0.fNum, .str a0.fStr, .int .i64 a0.fNext, .own 1 g1001 0 a0.fItems.length]), .row g1001 8 a0.fItems.length 34 (row TEntry.cells a0.fItems)] (fun res h => ∃ G1 : Nat, res = .tup [] ∧ h = [.row g1000 5 1 26 (fun _ => [.int .i64 r.fKind, .int .i64 r.fNum, .str r.fStr, .int .i64 r.fNext, .own 1 G1 0 r.fItems.length]), .row G1 8 r.fItems.length 34 (row TEntry.cells r.fItems)]) := by
  refine ACall.of_vc tabT_ok mixed Tryd.func39 rfl (by kernel_rfl) _ _ _ rfl (by kernel_rfl) ?_
  unfold m56 at h
  refine .direct ?_
  refine .direct ?_
  refine .float [(0, true), (1, true), (2, true), (3, true), (4, false), (5, true)] (by kernel_rfl) ?_
  refine ⟨rfl, ?_⟩
  refine ⟨rfl, _, rfl, ?_⟩
  refine ⟨rfl, _, rfl, ?_⟩
  obtain ⟨v1, hv2, h⟩ := bind_some h
  refine ⟨_, ACall.snap0 (args := [.agg [.int .i64 a0.fKind, .int .i64 a0.fNum, .str a0.fStr, .int .i64 a0.fNext, .own 1 g1001 0 a0.fItems.length], .agg [.bool a1.fText, .int .i64 a1.fNum, .str a1.fStr]]) (ok27 hv2) [.row g1000 5 1 26 (fun _ => [.int .i64 a0.fKind, .int .i64 a0.fNum, .str a0.fStr, .int .i64 a0.fNext, .own 1 g1001 0 a0.fItems.length]), .row g1001 8 a0.fItems.length 34 (row TEntry.cells a0.fItems), .row 0 3 1 32 (fun _ => [.bool a1.fText, .int .i64 a1.fNum, .str a1.fStr]), .row 0 5 1 26 (fun _ => [.int .i64 a2.fKind, .int .i64 a2.fNum, .str a2.fStr, .int .i64 a2.fNext, sl 8 TEntry.cells a2.fItems])] ⟨.agg_l ⟨.int_eq rfl, .int_eq rfl, .str_eq rfl, .int_eq rfl, (fz_snap TEntry.cells_pure rfl shows_all), trivial⟩, .agg_l ⟨.bool_eq rfl, .int_eq rfl, .str_eq rfl, trivial⟩, trivial⟩ rfl rfl (fun _ => rfl), ?_⟩
  rintro _ _ ⟨rfl, rfl⟩
  refine .direct ?_
  refine .direct ?_
  refine splitB.mk (fun hb3 => ?_) (fun hb3 => ?_)
  · replace h := T_dec hb3 h
    refine .direct ?_
    refine .float [(0, true), (1, true), (2, true), (3, true), (4, true), (5, true), (6, true), (7, true), (8, false)] (by kernel_rfl) ?_
    refine ⟨rfl, ?_⟩
    refine ⟨rfl, ?_⟩
    refine ⟨rfl, _, rfl, ?_⟩
    refine ⟨rfl, _, rfl, ?_⟩
    obtain ⟨x4, hx5, h⟩ := bind_some h
    refine ⟨rfl, idx_bd hx5, _, Nat.zero_add _, ?_⟩
    refine ⟨rfl, ?_⟩
    refine ⟨rfl, _, row TEntry.cells (a0.fItems.set v1.toNat (TEntry.mk x4.fKey a2)), ((idx_row hx5).trans (TEntry.cells_eq x4)), row_set (idx_lt hx5) (TEntry.cells_eq (TEntry.mk x4.fKey a2)) ⟨.same _, .same _, .same _, .same _, .same _, .same _, .same _, .same _, trivial⟩, ?_⟩
    obtain rfl := Option.some.inj h
    exact ⟨[0, 1], .tup [], [.row g1000 5 1 26 (fun _ => [.int .i64 ((TValue.mk a0.fKind a0.fNum a0.fStr a0.fNext (a0.fItems.set v1.toNat (TEntry.mk x4.fKey a2))).fKind), .int .i64 ((TValue.mk a0.fKind a0.fNum a0.fStr a0.fNext (a0.fItems.set v1.toNat (TEntry.mk x4.fKey a2))).fNum), .str ((TValue.mk a0.fKind a0.fNum a0.fStr a0.fNext (a0.fItems.set v1.toNat (TEntry.mk x4.fKey a2))).fStr), .int .i64 ((TValue.mk a0.fKind a0.fNum a0.fStr a0.fNext (a0.fItems.set v1.toNat (TEntry.mk x4.fKey a2))).fNext), .own 1 g1001 0 ((TValue.mk a0.fKind a0.fNum a0.fStr a0.fNext (a0.fItems.set v1.toNat (TEntry.mk x4.fKey a2))).fItems).length]), .row g1001 8 ((TValue.mk a0.fKind a0.fNum a0.fStr a0.fNext (a0.fItems.set v1.toNat (TEntry.mk x4.fKey a2))).fItems).length 34 (row TEntry.cells ((TValue.mk a0.fKind a0.fNum a0.fStr a0.fNext (a0.fItems.set v1.toNat (TEntry.mk x4.fKey a2))).fItems))], by decide, (show 2 ≤ 2 by decide), (.tup_l trivial), ⟨⟨fun _ => ⟨rfl, rfl⟩, rfl, rfl, rfl, fun _ _ => ⟨.int_eq rfl, .int_eq rfl, .str_eq rfl, .int_eq rfl, .own_eq rfl ⟨_, _, _, _, rfl⟩ ⟨_, _, _, _, rfl⟩ rfl (by simp), trivial⟩⟩, ⟨fun _ => ⟨rfl, rfl⟩, rfl, (by simp), rfl, fz_row TEntry.cells_pure⟩, trivial⟩, g1001, rfl, rfl⟩
  · replace h := F_dec hb3 h
    obtain ⟨o7, ho8, hk9⟩ := bind_some h
    replace h := ho8
    refine .cut (fun σ η => ∃ l6, l6 = o7 ∧ σ = [(0, .optr 0 g1000 0 0), (4, .optr 2 0 0 0)] ∧ η = [.row g1000 5 1 26 (fun _ => [.int .i64 a0.fKind, .int .i64 a0.fNum, .str a0.fStr, .int .i64 a0.fNext, .own 1 (g1001 + 1) 0 l6.length]), .row (g1001 + 1) 8 l6.length 34 (row TEntry.cells l6), .row 0 3 1 32 (fun _ => [.bool a1.fText, .int .i64 a1.fNum, .str a1.fStr])]) ?_ ?_
    · refine .float2 [(0, true), (1, true), (2, true), (3, true), (4, true), (5, true), (6, true), (7, true), (8, false), (9, false), (10, true), (12, true), (13, true)] 11 [(14, false)] 14 [(11, false)] (by kernel_rfl) ?_
      refine ⟨rfl, ?_⟩
      refine ⟨rfl, ?_⟩
      refine ⟨rfl, _, rfl, ?_⟩
      refine ⟨rfl, _, rfl, ?_⟩
      refine ⟨rfl, _, rfl, ?_⟩
      refine ⟨rfl, ?_⟩
      refine ⟨row TEntry.cells ([(TEntry.mk (TKey.mk false 0 []) (TValue.mk 0 0 [] 0 []))] : List TEntry), row_lit TEntry.cells ([(TEntry.mk (TKey.mk false 0 []) (TValue.mk 0 0 [] 0 []))] : List TEntry) rfl (cll_cons (TEntry.cells_eq _) ⟨.same _, .same _, .same _, .same _, .same _, .same _, .same _, .nil _ _, trivial⟩ trivial), ?_⟩
      refine ⟨rfl, ?_⟩
      refine ⟨rfl, ?_⟩
      refine ⟨rfl, ?_⟩
      refine ⟨rfl, ?_⟩
      refine ⟨rfl, ?_⟩
      refine ⟨rfl, ?_⟩
      obtain ⟨l10, hx11, h⟩ := bind_some h
      refine ⟨rfl, rfl, lapp_bd hx11, l10.length, row TEntry.cells l10, lapp_len hx11, lapp_row hx11 shows_all (src_own shows_all), ?_⟩
      obtain ⟨x12, hx13, h⟩ := bind_some h
      refine ⟨rfl, idx_bd hx13, _, Nat.zero_add _, ?_⟩
      refine ⟨rfl, ?_⟩
      refine ⟨rfl, ?_⟩
      refine ⟨?_, ?_⟩
      · refine ⟨rfl, _, row TEntry.cells (l10.set ((a0.fItems.length : Int).toNat) (TEntry.mk a1 a2)), ((idx_row hx13).trans (TEntry.cells_eq x12)), row_set (idx_lt hx13) (TEntry.cells_eq (TEntry.mk a1 a2)) ⟨.same _, .same _, .same _, .same _, .same _, .same _, .same _, .same _, trivial⟩, ?_⟩
        refine ⟨rfl, ?_⟩
        refine ⟨rfl, ?_⟩
        refine ⟨rfl, _, fun _ => [.int .i64 a0.fKind, .int .i64 a0.fNum, .str a0.fStr, .int .i64 a0.fNext, .own 1 (g1001 + 1) 0 l10.length], rfl, one_set rfl, ?_⟩
        refine ⟨rfl, ?_⟩
        exact ⟨[(0, .optr 0 g1000 0 0), (4, .optr 2 0 0 0)], [.row g1000 5 1 26 (fun _ => [.int .i64 a0.fKind, .int .i64 a0.fNum, .str a0.fStr, .int .i64 a0.fNext, .own 1 (g1001 + 1) 0 (l10.set ((a0.fItems.length : Int).toNat) (TEntry.mk a1 a2)).length]), .row (g1001 + 1) 8 (l10.set ((a0.fItems.length : Int).toNat) (TEntry.mk a1 a2)).length 34 (row TEntry.cells (l10.set ((a0.fItems.length : Int).toNat) (TEntry.mk a1 a2))), .row 0 3 1 32 (fun _ => [.bool a1.fText, .int .i64 a1.fNum, .str a1.fStr])], ⟨[0, 1, 2], by decide, (show 2 ≤ 3 by decide), ⟨.optr_eq rfl ⟨_, _, _, _, rfl⟩ ⟨_, _, _, _, rfl⟩ rfl rfl, .optr_eq rfl ⟨_, _, _, _, rfl⟩ ⟨_, _, _, _, rfl⟩ rfl rfl, trivial⟩, ⟨⟨fun _ => ⟨rfl, rfl⟩, rfl, rfl, rfl, fun _ _ => ⟨.int_eq rfl, .int_eq rfl, .str_eq rfl, .int_eq rfl, .own_eq rfl ⟨_, _, _, _, rfl⟩ ⟨_, _, _, _, rfl⟩ rfl (by simp), trivial⟩⟩, ⟨fun _ => ⟨rfl, rfl⟩, rfl, (by simp), rfl, fz_row TEntry.cells_pure⟩, ⟨fun h0 => absurd (show 2 < 2 from h0) (by decide), rfl, rfl, rfl, fun _ _ => ⟨.bool_eq rfl, .int_eq rfl, .str_eq rfl, trivial⟩⟩, trivial⟩⟩, (l10.set ((a0.fItems.length : Int).toNat) (TEntry.mk a1 a2)), Option.some.inj h, rfl, rfl⟩
      · refine ⟨rfl, _, fun _ => [.int .i64 a0.fKind, .int .i64 a0.fNum, .str a0.fStr, .int .i64 a0.fNext, .own 1 (g1001 + 1) 0 l10.length], rfl, one_set rfl, ?_⟩
        refine ⟨rfl, ?_⟩
        refine ⟨rfl, _, row TEntry.cells (l10.set ((a0.fItems.length : Int).toNat) (TEntry.mk a1 a2)), ((idx_row hx13).trans (TEntry.cells_eq x12)), row_set (idx_lt hx13) (TEntry.cells_eq (TEntry.mk a1 a2)) ⟨.same _, .same _, .same _, .same _, .same _, .same _, .same _, .same _, trivial⟩, ?_⟩
        refine ⟨rfl, ?_⟩
        refine ⟨rfl, ?_⟩
        exact ⟨[(0, .optr 0 g1000 0 0), (4, .optr 2 0 0 0)], [.row g1000 5 1 26 (fun _ => [.int .i64 a0.fKind, .int .i64 a0.fNum, .str a0.fStr, .int .i64 a0.fNext, .own 1 (g1001 + 1) 0 (l10.set ((a0.fItems.length : Int).toNat) (TEntry.mk a1 a2)).length]), .row (g1001 + 1) 8 (l10.set ((a0.fItems.length : Int).toNat) (TEntry.mk a1 a2)).length 34 (row TEntry.cells (l10.set ((a0.fItems.length : Int).toNat) (TEntry.mk a1 a2))), .row 0 3 1 32 (fun _ => [.bool a1.fText, .int .i64 a1.fNum, .str a1.fStr])], ⟨[0, 1, 2], by decide, (show 2 ≤ 3 by decide), ⟨.optr_eq rfl ⟨_, _, _, _, rfl⟩ ⟨_, _, _, _, rfl⟩ rfl rfl, .optr_eq rfl ⟨_, _, _, _, rfl⟩ ⟨_, _, _, _, rfl⟩ rfl rfl, trivial⟩, ⟨⟨fun _ => ⟨rfl, rfl⟩, rfl, rfl, rfl, fun _ _ => ⟨.int_eq rfl, .int_eq rfl, .str_eq rfl, .int_eq rfl, .own_eq rfl ⟨_, _, _, _, rfl⟩ ⟨_, _, _, _, rfl⟩ rfl (by simp), trivial⟩⟩, ⟨fun _ => ⟨rfl, rfl⟩, rfl, (by simp), rfl, fz_row TEntry.cells_pure⟩, ⟨fun h0 => absurd (show 2 < 2 from h0) (by decide), rfl, rfl, rfl, fun _ _ => ⟨.bool_eq rfl, .int_eq rfl, .str_eq rfl, trivial⟩⟩, trivial⟩⟩, (l10.set ((a0.fItems.length : Int).toNat) (TEntry.mk a1 a2)), Option.some.inj h, rfl, rfl⟩
    · rintro _ _ ⟨l6, rfl, rfl, rfl⟩
      replace h := hk9
      refine .direct ?_
      refine ⟨rfl, ?_⟩
      refine ⟨rfl, _, rfl, ?_⟩
      refine splitB.mk (fun hb14 => ?_) (fun hb14 => ?_)
      · have hb17 := not_F hb14
        replace h := F_var hb17 h
        refine .float [(0, true), (1, true), (2, true), (3, true), (4, true), (5, true), (6, true), (7, true), (8, false), (9, true), (10, true), (11, false)] (by kernel_rfl) ?_
        refine ⟨rfl, ?_⟩
        refine ⟨rfl, ?_⟩
        refine ⟨rfl, _, rfl, ?_⟩
        refine ⟨rfl, ?_⟩
        refine ⟨rfl, _, rfl, ?_⟩
        obtain ⟨v15, hv16, h⟩ := bind_some h
        refine ⟨_, ACall.pure0 (ok93 hv16) _ rfl (fun _ => rfl), ?_⟩
        rintro _ _ ⟨rfl, rfl⟩
        refine ⟨rfl, ?_⟩
        refine ⟨rfl, ?_⟩
        refine ⟨rfl, _, fun _ => [.int .i64 a0.fKind, .int .i64 a0.fNum, .str a0.fStr, .int .i64 v15, .own 1 (g1001 + 1) 0 l6.length], rfl, one_set rfl, ?_⟩
        obtain rfl := Option.some.inj h
        exact ⟨[0, 1], .tup [], [.row g1000 5 1 26 (fun _ => [.int .i64 ((TValue.mk a0.fKind a0.fNum a0.fStr v15 l6).fKind), .int .i64 ((TValue.mk a0.fKind a0.fNum a0.fStr v15 l6).fNum), .str ((TValue.mk a0.fKind a0.fNum a0.fStr v15 l6).fStr), .int .i64 ((TValue.mk a0.fKind a0.fNum a0.fStr v15 l6).fNext), .own 1 (g1001 + 1) 0 ((TValue.mk a0.fKind a0.fNum a0.fStr v15 l6).fItems).length]), .row (g1001 + 1) 8 ((TValue.mk a0.fKind a0.fNum a0.fStr v15 l6).fItems).length 34 (row TEntry.cells ((TValue.mk a0.fKind a0.fNum a0.fStr v15 l6).fItems))], by decide, (show 2 ≤ 2 by decide), (.tup_l trivial), ⟨⟨fun _ => ⟨rfl, rfl⟩, rfl, rfl, rfl, fun _ _ => ⟨.int_eq rfl, .int_eq rfl, .str_eq rfl, .int_eq rfl, .own_eq rfl ⟨_, _, _, _, rfl⟩ ⟨_, _, _, _, rfl⟩ rfl rfl, trivial⟩⟩, ⟨fun _ => ⟨rfl, rfl⟩, rfl, rfl, rfl, fz_row TEntry.cells_pure⟩, trivial⟩, (g1001 + 1), rfl, rfl⟩
      · have hb17 := not_T hb14
        replace h := T_var hb17 h
        obtain rfl := Option.some.inj h
        exact ⟨[0, 1], .tup [], [.row g1000 5 1 26 (fun _ => [.int .i64 ((TValue.mk a0.fKind a0.fNum a0.fStr a0.fNext l6).fKind), .int .i64 ((TValue.mk a0.fKind a0.fNum a0.fStr a0.fNext l6).fNum), .str ((TValue.mk a0.fKind a0.fNum a0.fStr a0.fNext l6).fStr), .int .i64 ((TValue.mk a0.fKind a0.fNum a0.fStr a0.fNext l6).fNext), .own 1 (g1001 + 1) 0 ((TValue.mk a0.fKind a0.fNum a0.fStr a0.fNext l6).fItems).length]), .row (g1001 + 1) 8 ((TValue.mk a0.fKind a0.fNum a0.fStr a0.fNext l6).fItems).length 34 (row TEntry.cells ((TValue.mk a0.fKind a0.fNum a0.fStr a0.fNext l6).fItems))], by decide, (show 2 ≤ 2 by decide), (.tup_l trivial), ⟨⟨fun _ => ⟨rfl, rfl⟩, rfl, rfl, rfl, fun _ _ => ⟨.int_eq rfl, .int_eq rfl, .str_eq rfl, .int_eq rfl, .own_eq rfl ⟨_, _, _, _, rfl⟩ ⟨_, _, _, _, rfl⟩ rfl rfl, trivial⟩⟩, ⟨fun _ => ⟨rfl, rfl⟩, rfl, rfl, rfl, fz_row TEntry.cells_pure⟩, trivial⟩, (g1001 + 1), rfl, rfl⟩
end Go.Am
