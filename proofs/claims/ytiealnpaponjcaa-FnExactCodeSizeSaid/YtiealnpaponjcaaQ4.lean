/- PushOf, the reference's and the program's. -/
import Derived.Test.YtiealnpaponjcaaQ3
set_option linter.unusedVariables false
set_option linter.unusedSimpArgs false
namespace Go.Am
open Go Go.RowKit Go.Proofs

def bit (v : V) : Int := if v.num = 0 then 0 else 1
def pushR (v : V) : PV :=
  if v.kind = 0 then .tup [.agg [.int .i64 4, .int .i64 0, .int .i64 0, .str [], .str []], .bool true]
  else if v.kind = 1 then .tup [.agg [.int .i64 4, .int .i64 (IntKind.i64.wrap (1 + bit v)), .int .i64 0, .str [], .str []], .bool true]
  else if v.kind = 2 ∧ 0 ≤ v.num ∧ v.num ≤ 1000000000 then .tup [.agg [.int .i64 2, .int .i64 v.num, .int .i64 0, .str [], .str []], .bool true]
  else if v.kind = 3 ∧ v.str.length ≤ 400 then .tup [.agg [.int .i64 3, .int .i64 0, .int .i64 0, .str v.str, .str []], .bool true]
  else .tup [.agg [.int .i64 0, .int .i64 0, .int .i64 0, .str [], .str []], .bool false]

theorem toBoolS_ok (v : V) (hk : v.kind = 1) : ACall Try.prog 47 [.agg v.cells] [] (fun res h => res = .bool (v.num != 0) ∧ h = []) := by
  refine ACall.of_vc tab_ok mixed Try.func47 rfl (by kernel_rfl) _ _ _ rfl (by kernel_rfl) ?_
  refine ⟨rfl, rfl, ?_⟩
  refine splitB.mk (fun h => absurd h (by simp [hk])) (fun _ => ?_)
  refine splitB.mk (fun _ => ?_) (fun h => absurd h (by simp [hk]))
  refine splitB.mk (fun _ => ?_) (fun h => absurd h (by simp [hk]))
  refine ⟨rfl, rfl, ?_⟩
  exact ⟨[], .bool (v.num != 0), [], by simp, Nat.zero_le _, .bool _, trivial, rfl, rfl⟩

theorem toBoolI_ok (v : V) (hk : v.kind = 1) : ACall Try.prog 28 [.agg v.cells] [] (fun res h => res = .bool (v.num != 0) ∧ h = []) := by
  refine ACall.of_vc tab_ok mixed Try.func28 rfl (by kernel_rfl) _ _ _ rfl (by kernel_rfl) ?_
  refine ⟨rfl, rfl, ?_⟩
  refine splitB.mk (fun h => absurd h (by simp [hk])) (fun _ => ?_)
  refine splitB.mk (fun _ => ?_) (fun h => absurd h (by simp [hk]))
  refine splitB.mk (fun _ => ?_) (fun h => absurd h (by simp [hk]))
  refine ⟨rfl, rfl, ?_⟩
  exact ⟨[], .bool (v.num != 0), [], by simp, Nat.zero_le _, .bool _, trivial, rfl, rfl⟩

theorem l9Bit_ok (v : V) (hk : v.kind = 1) : ACall Try.prog 24 [.agg v.cells] [] (fun res h => res = .int .i64 (bit v) ∧ h = []) := by
  refine ACall.of_vc tab_ok mixed Try.func24 rfl (by kernel_rfl) _ _ _ rfl (by kernel_rfl) ?_
  refine ⟨rfl, ?_⟩
  refine ⟨_, (toBoolS_ok v hk).frame _ rfl, ?_⟩
  rintro _ _ ⟨_, _, ⟨rfl, rfl⟩, rfl, rfl⟩
  refine splitB.mk (fun h => ?_) (fun h => ?_)
  · exact ⟨[], .int .i64 1, [], by simp, Nat.zero_le _, .int _ _, trivial, by simp at h; simp [bit, h], rfl⟩
  · exact ⟨[], .int .i64 0, [], by simp, Nat.zero_le _, .int _ _, trivial, by simp at h; simp [bit, h], rfl⟩

theorem boolNum_ok (v : V) : ACall Try.prog 27 [.bool (v.num != 0)] [] (fun res h => res = .int .i64 (bit v) ∧ h = []) := by
  refine ACall.of_vc tab_ok mixed Try.func27 rfl (by kernel_rfl) _ _ _ rfl (by kernel_rfl) ?_
  refine splitB.mk (fun h => ?_) (fun h => ?_)
  · exact ⟨[], .int .i64 1, [], by simp, Nat.zero_le _, .int _ _, trivial, by simp at h; simp [bit, h], rfl⟩
  · exact ⟨[], .int .i64 0, [], by simp, Nat.zero_le _, .int _ _, trivial, by simp at h; simp [bit, h], rfl⟩

theorem l1In_ok (x lo hi : Int) : ACall Try.prog 25 [.int .i64 x, .int .i64 lo, .int .i64 hi] [] (fun res h => res = .bool (decide (lo ≤ x) && decide (x ≤ hi)) ∧ h = []) := by
  refine ACall.of_vc tab_ok mixed Try.func25 rfl (by kernel_rfl) _ _ _ rfl (by kernel_rfl) ?_
  refine splitB.mk (fun h => ?_) (fun h => ?_)
  · have h := of_decide_eq_true h
    repeat first | refine splitB.mk (fun h => absurd h (by decide)) (fun _ => ?_) | refine splitB.mk (fun _ => ?_) (fun h => absurd h (by decide))
    exact ⟨[], _, [], by simp, Nat.zero_le _, .bool _, trivial, by simp [show lo ≤ x from h], rfl⟩
  · have h := of_decide_eq_false h
    repeat first | refine splitB.mk (fun h => absurd h (by decide)) (fun _ => ?_) | refine splitB.mk (fun _ => ?_) (fun h => absurd h (by decide))
    exact ⟨[], _, [], by simp, Nat.zero_le _, .bool _, trivial, by simp [show ¬ lo ≤ x from h], rfl⟩

theorem inRange_ok (x lo hi : Int) : ACall Try.prog 29 [.int .i64 x, .int .i64 lo, .int .i64 hi] [] (fun res h => res = .bool (decide (lo ≤ x) && decide (x ≤ hi)) ∧ h = []) := by
  refine ACall.of_vc tab_ok mixed Try.func29 rfl (by kernel_rfl) _ _ _ rfl (by kernel_rfl) ?_
  refine splitB.mk (fun h => ?_) (fun h => ?_)
  · have h := of_decide_eq_true h
    repeat first | refine splitB.mk (fun h => absurd h (by decide)) (fun _ => ?_) | refine splitB.mk (fun _ => ?_) (fun h => absurd h (by decide))
    exact ⟨[], _, [], by simp, Nat.zero_le _, .bool _, trivial, by simp [show lo ≤ x from h], rfl⟩
  · have h := of_decide_eq_false h
    repeat first | refine splitB.mk (fun h => absurd h (by decide)) (fun _ => ?_) | refine splitB.mk (fun _ => ?_) (fun h => absurd h (by decide))
    exact ⟨[], _, [], by simp, Nat.zero_le _, .bool _, trivial, by simp [show ¬ lo ≤ x from h], rfl⟩

theorem eqIns_ok (o a b : Int) (s t : List UInt8) : ACall Try.prog 10 [.agg [.int .i64 o, .int .i64 a, .int .i64 b, .str s, .str t], .agg [.int .i64 o, .int .i64 a, .int .i64 b, .str s, .str t]] [] (fun res h => res = .bool true ∧ h = []) := by
  refine ACall.of_vc tab_ok mixed Try.func10 rfl (by kernel_rfl) _ _ _ rfl (by kernel_rfl) ?_
  iterate 5 refine ⟨rfl, rfl, rfl, rfl, splitB.mk (fun h => absurd h (by simp)) (fun _ => ?_)⟩
  exact ⟨[], .bool true, [], by simp, Nat.zero_le _, .bool _, trivial, rfl, rfl⟩

theorem pushS_ok (v : V) : ACall Try.prog 7 [.agg v.cells] [] (fun res h => res = pushR v ∧ h = []) := by
  refine ACall.of_vc tab_ok mixed Try.func7 rfl (by kernel_rfl) _ _ _ rfl (by kernel_rfl) ?_
  refine ⟨rfl, rfl, splitB.mk (fun h0 => ?_) (fun h0 => ?_)⟩
  · have h0 : v.kind = 0 := by simpa using h0
    refine ⟨rfl, rfl, ?_⟩
    exact ⟨[], .tup [.agg [.int .i64 4, .int .i64 0, .int .i64 0, .str [], .str []], .bool true], [], by simp, Nat.zero_le _, .tup_l ⟨.agg_l ⟨.int_eq rfl, .int_eq rfl, .int_eq rfl, .str_eq rfl, .str_eq rfl, trivial⟩, .bool _, trivial⟩, trivial, by simp [pushR, h0], rfl⟩
  · have h0 : ¬ v.kind = 0 := by simpa using h0
    refine ⟨rfl, rfl, splitB.mk (fun h1 => ?_) (fun h1 => ?_)⟩
    · have h1 : v.kind = 1 := by simpa using h1
      refine ⟨rfl, ?_⟩
      refine ⟨_, (l9Bit_ok v h1).frame _ rfl, ?_⟩
      rintro _ _ ⟨_, _, ⟨rfl, rfl⟩, rfl, rfl⟩
      refine ⟨rfl, rfl, ?_⟩
      exact ⟨[], .tup [.agg [.int .i64 4, .int .i64 (IntKind.i64.wrap (1 + bit v)), .int .i64 0, .str [], .str []], .bool true], [], by simp, Nat.zero_le _, .tup_l ⟨.agg_l ⟨.int_eq rfl, .int_eq rfl, .int_eq rfl, .str_eq rfl, .str_eq rfl, trivial⟩, .bool _, trivial⟩, trivial, by simp [pushR, h1], rfl⟩
    · have h1 : ¬ v.kind = 1 := by simpa using h1
      refine ⟨rfl, rfl, splitB.mk (fun h2 => ?_) (fun h2 => ?_)⟩
      · have h2 : v.kind = 2 := by simpa using h2
        refine ⟨rfl, ?_⟩
        repeat first | refine splitB.mk (fun h => absurd h (by decide)) (fun _ => ?_) | refine splitB.mk (fun _ => ?_) (fun h => absurd h (by decide))
        refine ⟨rfl, ?_⟩
        repeat first | refine splitB.mk (fun h => absurd h (by decide)) (fun _ => ?_) | refine splitB.mk (fun _ => ?_) (fun h => absurd h (by decide))
        refine ⟨_, (l1In_ok _ _ _).frame _ rfl, ?_⟩
        rintro _ _ ⟨_, _, ⟨rfl, rfl⟩, rfl, rfl⟩
        repeat first | refine splitB.mk (fun h => absurd h (by decide)) (fun _ => ?_) | refine splitB.mk (fun _ => ?_) (fun h => absurd h (by decide))
        refine splitB.mk (fun h3 => ?_) (fun h3 => ?_)
        · have h3 : 0 ≤ v.num ∧ v.num ≤ 1000000000 := by simpa using h3
          refine ⟨rfl, rfl, rfl, rfl, ?_⟩
          exact ⟨[], .tup [.agg [.int .i64 2, .int .i64 v.num, .int .i64 0, .str [], .str []], .bool true], [], by simp, Nat.zero_le _, .tup_l ⟨.agg_l ⟨.int_eq rfl, .int_eq rfl, .int_eq rfl, .str_eq rfl, .str_eq rfl, trivial⟩, .bool _, trivial⟩, trivial, by simp [pushR, h2, h3], rfl⟩
        · have h3 : ¬ (0 ≤ v.num ∧ v.num ≤ 1000000000) := by simpa using h3
          refine ⟨rfl, rfl, splitB.mk (fun h4 => absurd h4 (by simp [h2])) (fun _ => ?_)⟩
          repeat first | refine splitB.mk (fun h => absurd h (by decide)) (fun _ => ?_) | refine splitB.mk (fun _ => ?_) (fun h => absurd h (by decide))
          refine ⟨rfl, rfl, ?_⟩
          exact ⟨[], .tup [.agg [.int .i64 0, .int .i64 0, .int .i64 0, .str [], .str []], .bool false], [], by simp, Nat.zero_le _, .tup_l ⟨.agg_l ⟨.int_eq rfl, .int_eq rfl, .int_eq rfl, .str_eq rfl, .str_eq rfl, trivial⟩, .bool _, trivial⟩, trivial, by simp [pushR, h2, h3], rfl⟩
      · have h2 : ¬ v.kind = 2 := by simpa using h2
        repeat first | refine splitB.mk (fun h => absurd h (by decide)) (fun _ => ?_) | refine splitB.mk (fun _ => ?_) (fun h => absurd h (by decide))
        refine ⟨rfl, rfl, splitB.mk (fun h3 => ?_) (fun h3 => ?_)⟩
        · have h3 : v.kind = 3 := by simpa using h3
          refine ⟨rfl, ?_⟩
          repeat first | refine splitB.mk (fun h => absurd h (by decide)) (fun _ => ?_) | refine splitB.mk (fun _ => ?_) (fun h => absurd h (by decide))
          refine ⟨rfl, ?_⟩
          repeat first | refine splitB.mk (fun h => absurd h (by decide)) (fun _ => ?_) | refine splitB.mk (fun _ => ?_) (fun h => absurd h (by decide))
          refine splitB.mk (fun h4 => ?_) (fun h4 => ?_)
          · have h4 : v.str.length ≤ 400 := by have := of_decide_eq_true h4; omega
            refine ⟨rfl, rfl, rfl, rfl, ?_⟩
            exact ⟨[], .tup [.agg [.int .i64 3, .int .i64 0, .int .i64 0, .str v.str, .str []], .bool true], [], by simp, Nat.zero_le _, .tup_l ⟨.agg_l ⟨.int_eq rfl, .int_eq rfl, .int_eq rfl, .str_eq rfl, .str_eq rfl, trivial⟩, .bool _, trivial⟩, trivial, by simp [pushR, h3, h4], rfl⟩
          · have h4 : ¬ v.str.length ≤ 400 := by have := of_decide_eq_false h4; omega
            refine ⟨rfl, rfl, ?_⟩
            exact ⟨[], .tup [.agg [.int .i64 0, .int .i64 0, .int .i64 0, .str [], .str []], .bool false], [], by simp, Nat.zero_le _, .tup_l ⟨.agg_l ⟨.int_eq rfl, .int_eq rfl, .int_eq rfl, .str_eq rfl, .str_eq rfl, trivial⟩, .bool _, trivial⟩, trivial, by simp [pushR, h3, h4], rfl⟩
        · have h3 : ¬ v.kind = 3 := by simpa using h3
          repeat first | refine splitB.mk (fun h => absurd h (by decide)) (fun _ => ?_) | refine splitB.mk (fun _ => ?_) (fun h => absurd h (by decide))
          refine ⟨rfl, rfl, ?_⟩
          exact ⟨[], .tup [.agg [.int .i64 0, .int .i64 0, .int .i64 0, .str [], .str []], .bool false], [], by simp, Nat.zero_le _, .tup_l ⟨.agg_l ⟨.int_eq rfl, .int_eq rfl, .int_eq rfl, .str_eq rfl, .str_eq rfl, trivial⟩, .bool _, trivial⟩, trivial, by simp [pushR, h0, h1, h2, h3], rfl⟩

theorem pushI_ok (v : V) : ACall Try.prog 9 [.agg v.cells] [] (fun res h => res = pushR v ∧ h = []) := by
  refine ACall.of_vc tab_ok mixed Try.func9 rfl (by kernel_rfl) _ _ _ rfl (by kernel_rfl) ?_
  refine ⟨rfl, rfl, splitB.mk (fun h0 => ?_) (fun h0 => ?_)⟩
  · have h0 : v.kind = 0 := by simpa using h0
    refine ⟨rfl, rfl, ?_⟩
    exact ⟨[], .tup [.agg [.int .i64 4, .int .i64 0, .int .i64 0, .str [], .str []], .bool true], [], by simp, Nat.zero_le _, .tup_l ⟨.agg_l ⟨.int_eq rfl, .int_eq rfl, .int_eq rfl, .str_eq rfl, .str_eq rfl, trivial⟩, .bool _, trivial⟩, trivial, by simp [pushR, h0], rfl⟩
  · have h0 : ¬ v.kind = 0 := by simpa using h0
    refine ⟨rfl, rfl, splitB.mk (fun h1 => ?_) (fun h1 => ?_)⟩
    · have h1 : v.kind = 1 := by simpa using h1
      refine ⟨rfl, ?_⟩
      refine ⟨_, (toBoolI_ok v h1).frame _ rfl, ?_⟩
      rintro _ _ ⟨_, _, ⟨rfl, rfl⟩, rfl, rfl⟩
      refine ⟨_, (boolNum_ok v).frame _ rfl, ?_⟩
      rintro _ _ ⟨_, _, ⟨rfl, rfl⟩, rfl, rfl⟩
      refine ⟨rfl, rfl, ?_⟩
      exact ⟨[], .tup [.agg [.int .i64 4, .int .i64 (IntKind.i64.wrap (1 + bit v)), .int .i64 0, .str [], .str []], .bool true], [], by simp, Nat.zero_le _, .tup_l ⟨.agg_l ⟨.int_eq rfl, .int_eq rfl, .int_eq rfl, .str_eq rfl, .str_eq rfl, trivial⟩, .bool _, trivial⟩, trivial, by simp [pushR, h1], rfl⟩
    · have h1 : ¬ v.kind = 1 := by simpa using h1
      refine ⟨rfl, rfl, splitB.mk (fun h2 => ?_) (fun h2 => ?_)⟩
      · have h2 : v.kind = 2 := by simpa using h2
        refine ⟨rfl, ?_⟩
        repeat first | refine splitB.mk (fun h => absurd h (by decide)) (fun _ => ?_) | refine splitB.mk (fun _ => ?_) (fun h => absurd h (by decide))
        refine ⟨rfl, ?_⟩
        repeat first | refine splitB.mk (fun h => absurd h (by decide)) (fun _ => ?_) | refine splitB.mk (fun _ => ?_) (fun h => absurd h (by decide))
        refine ⟨_, (inRange_ok _ _ _).frame _ rfl, ?_⟩
        rintro _ _ ⟨_, _, ⟨rfl, rfl⟩, rfl, rfl⟩
        repeat first | refine splitB.mk (fun h => absurd h (by decide)) (fun _ => ?_) | refine splitB.mk (fun _ => ?_) (fun h => absurd h (by decide))
        refine splitB.mk (fun h3 => ?_) (fun h3 => ?_)
        · have h3 : 0 ≤ v.num ∧ v.num ≤ 1000000000 := by simpa using h3
          refine ⟨rfl, rfl, rfl, rfl, ?_⟩
          exact ⟨[], .tup [.agg [.int .i64 2, .int .i64 v.num, .int .i64 0, .str [], .str []], .bool true], [], by simp, Nat.zero_le _, .tup_l ⟨.agg_l ⟨.int_eq rfl, .int_eq rfl, .int_eq rfl, .str_eq rfl, .str_eq rfl, trivial⟩, .bool _, trivial⟩, trivial, by simp [pushR, h2, h3], rfl⟩
        · have h3 : ¬ (0 ≤ v.num ∧ v.num ≤ 1000000000) := by simpa using h3
          refine ⟨rfl, rfl, splitB.mk (fun h4 => absurd h4 (by simp [h2])) (fun _ => ?_)⟩
          repeat first | refine splitB.mk (fun h => absurd h (by decide)) (fun _ => ?_) | refine splitB.mk (fun _ => ?_) (fun h => absurd h (by decide))
          refine ⟨rfl, rfl, ?_⟩
          exact ⟨[], .tup [.agg [.int .i64 0, .int .i64 0, .int .i64 0, .str [], .str []], .bool false], [], by simp, Nat.zero_le _, .tup_l ⟨.agg_l ⟨.int_eq rfl, .int_eq rfl, .int_eq rfl, .str_eq rfl, .str_eq rfl, trivial⟩, .bool _, trivial⟩, trivial, by simp [pushR, h2, h3], rfl⟩
      · have h2 : ¬ v.kind = 2 := by simpa using h2
        repeat first | refine splitB.mk (fun h => absurd h (by decide)) (fun _ => ?_) | refine splitB.mk (fun _ => ?_) (fun h => absurd h (by decide))
        refine ⟨rfl, rfl, splitB.mk (fun h3 => ?_) (fun h3 => ?_)⟩
        · have h3 : v.kind = 3 := by simpa using h3
          refine ⟨rfl, ?_⟩
          repeat first | refine splitB.mk (fun h => absurd h (by decide)) (fun _ => ?_) | refine splitB.mk (fun _ => ?_) (fun h => absurd h (by decide))
          refine ⟨rfl, ?_⟩
          repeat first | refine splitB.mk (fun h => absurd h (by decide)) (fun _ => ?_) | refine splitB.mk (fun _ => ?_) (fun h => absurd h (by decide))
          refine splitB.mk (fun h4 => ?_) (fun h4 => ?_)
          · have h4 : v.str.length ≤ 400 := by have := of_decide_eq_true h4; omega
            refine ⟨rfl, rfl, rfl, rfl, ?_⟩
            exact ⟨[], .tup [.agg [.int .i64 3, .int .i64 0, .int .i64 0, .str v.str, .str []], .bool true], [], by simp, Nat.zero_le _, .tup_l ⟨.agg_l ⟨.int_eq rfl, .int_eq rfl, .int_eq rfl, .str_eq rfl, .str_eq rfl, trivial⟩, .bool _, trivial⟩, trivial, by simp [pushR, h3, h4], rfl⟩
          · have h4 : ¬ v.str.length ≤ 400 := by have := of_decide_eq_false h4; omega
            refine ⟨rfl, rfl, ?_⟩
            exact ⟨[], .tup [.agg [.int .i64 0, .int .i64 0, .int .i64 0, .str [], .str []], .bool false], [], by simp, Nat.zero_le _, .tup_l ⟨.agg_l ⟨.int_eq rfl, .int_eq rfl, .int_eq rfl, .str_eq rfl, .str_eq rfl, trivial⟩, .bool _, trivial⟩, trivial, by simp [pushR, h3, h4], rfl⟩
        · have h3 : ¬ v.kind = 3 := by simpa using h3
          repeat first | refine splitB.mk (fun h => absurd h (by decide)) (fun _ => ?_) | refine splitB.mk (fun _ => ?_) (fun h => absurd h (by decide))
          refine ⟨rfl, rfl, ?_⟩
          exact ⟨[], .tup [.agg [.int .i64 0, .int .i64 0, .int .i64 0, .str [], .str []], .bool false], [], by simp, Nat.zero_le _, .tup_l ⟨.agg_l ⟨.int_eq rfl, .int_eq rfl, .int_eq rfl, .str_eq rfl, .str_eq rfl, trivial⟩, .bool _, trivial⟩, trivial, by simp [pushR, h0, h1, h2, h3], rfl⟩


end Go.Am
