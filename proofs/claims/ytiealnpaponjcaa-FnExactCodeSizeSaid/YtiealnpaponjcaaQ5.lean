/- The law on PushOf. -/
import Derived.Test.YtiealnpaponjcaaQ4
set_option linter.unusedVariables false
set_option linter.unusedSimpArgs false
namespace Go.Am
open Go Go.RowKit Go.Proofs

theorem ACall.frame0 {P : Program} {f : FuncId} {args : List PV} {r : PV} (hA : ACall P f args [] (fun res h => res = r ∧ h = [])) (h : List AObj) (hp : args.all pureA = true) (hr : ∀ n, shiftV n r = r) :
    ACall P f args h (fun res h' => res = r ∧ h' = h) :=
  (hA.frame h hp).mono (by rintro _ _ ⟨_, _, ⟨rfl, rfl⟩, rfl, rfl⟩; exact ⟨hr _, by simp⟩)

theorem pushR_form (v : V) : ∃ (o a b : Int) (s t : List UInt8) (ok : Bool), pushR v = .tup [.agg [.int .i64 o, .int .i64 a, .int .i64 b, .str s, .str t], .bool ok] := by
  unfold pushR
  repeat' split
  all_goals exact ⟨_, _, _, _, _, _, rfl⟩

theorem lawPushOf (v : V) (hv : v.Ok) : ACall Try.prog 3 [.agg v.cells] [] (fun res _ => res = .bool true) := by
  obtain ⟨o, a, b, s, t, ok, hp⟩ := pushR_form v
  have cS : ACall Try.prog 7 [.agg v.cells] [] (fun res h => res = .tup [.agg [.int .i64 o, .int .i64 a, .int .i64 b, .str s, .str t], .bool ok] ∧ h = []) := (pushS_ok v).mono (by rintro _ _ ⟨rfl, rfl⟩; exact ⟨hp, rfl⟩)
  have cI : ACall Try.prog 9 [.agg v.cells] [] (fun res h => res = .tup [.agg [.int .i64 o, .int .i64 a, .int .i64 b, .str s, .str t], .bool ok] ∧ h = []) := (pushI_ok v).mono (by rintro _ _ ⟨rfl, rfl⟩; exact ⟨hp, rfl⟩)
  have eqv := eqValue_ok v hv
  refine ACall.of_vc tab_ok mixed Try.func3 rfl (by kernel_rfl) _ _ _ rfl (by kernel_rfl) ?_
  refine ⟨rfl, ?_⟩
  refine ⟨fun res h' => ∃ r : Int, res = .int .i64 r ∧ h' = [.row 0 5 1 24 (fun _ => v.cells)] ∧ (0 ≤ r → v.Small),
    ((szValue_ok v hv 1048576 (by omega) (by omega)).frame [.row 0 5 1 24 (fun _ => v.cells)] rfl).mono (by rintro _ _ ⟨_, _, ⟨r, rfl, rfl, _, _, r3⟩, rfl, rfl⟩; exact ⟨r, rfl, rfl, r3⟩), ?_⟩
  rintro _ _ ⟨r, rfl, rfl, r3⟩
  refine splitB.mk (fun h => ?_) (fun h => ?_)
  · exact ⟨[], .bool true, [], by simp, Nat.zero_le _, .bool _, trivial, rfl⟩
  · have h := of_decide_eq_false h
    have tov := toValue_ok v (r3 (by omega))
    refine ⟨rfl, ?_⟩
    refine ⟨_, tov.frame0 _ rfl (fun _ => rfl), ?_⟩
    rintro _ _ ⟨rfl, rfl⟩
    refine ⟨_, cS.frame0 _ rfl (fun _ => rfl), ?_⟩
    rintro _ _ ⟨rfl, rfl⟩
    refine ⟨rfl, rfl, ?_⟩
    refine ⟨_, tov.frame0 _ rfl (fun _ => rfl), ?_⟩
    rintro _ _ ⟨rfl, rfl⟩
    refine ⟨rfl, rfl, ?_⟩
    refine ⟨_, cI.frame0 _ rfl (fun _ => rfl), ?_⟩
    rintro _ _ ⟨rfl, rfl⟩
    refine ⟨rfl, rfl, rfl, ?_⟩
    refine ⟨_, (eqIns_ok o a b s t).frame0 _ rfl (fun _ => rfl), ?_⟩
    rintro _ _ ⟨rfl, rfl⟩
    iterate 4 refine splitB.mk (fun h => absurd h (by decide)) (fun _ => ?_)
    refine splitB.mk (fun h => absurd h (by simp)) (fun _ => ?_)
    refine .orders [(40, .bool false)] [] (by kernel_rfl) ⟨⟨rfl, rfl, ?_⟩, ⟨rfl, ⟨rfl, ?_⟩, ?_⟩⟩ ?_
    · refine ⟨_, tov.frame0 _ rfl (fun _ => rfl), ?_⟩
      rintro _ _ ⟨rfl, rfl⟩
      refine ⟨_, eqv.frame0 _ rfl (fun _ => rfl), ?_⟩
      rintro _ _ ⟨rfl, rfl⟩
      exact ⟨[], by simp, Nat.zero_le _, ⟨.bool_eq rfl, trivial⟩, trivial⟩
    · refine ⟨_, tov.frame0 _ rfl (fun _ => rfl), ?_⟩
      rintro _ _ ⟨rfl, rfl⟩
      refine ⟨_, eqv.frame0 _ rfl (fun _ => rfl), ?_⟩
      rintro _ _ ⟨rfl, rfl⟩
      exact ⟨[], by simp, Nat.zero_le _, ⟨.bool_eq rfl, trivial⟩, trivial⟩
    · refine ⟨_, tov.frame0 _ rfl (fun _ => rfl), ?_⟩
      rintro _ _ ⟨rfl, rfl⟩
      refine ⟨rfl, ?_⟩
      refine ⟨_, eqv.frame0 _ rfl (fun _ => rfl), ?_⟩
      rintro _ _ ⟨rfl, rfl⟩
      exact ⟨[], by simp, Nat.zero_le _, ⟨.bool_eq rfl, trivial⟩, trivial⟩
    · refine splitB.mk (fun h => absurd h (by decide)) (fun _ => ?_)
      exact ⟨[], .bool true, [], by simp, Nat.zero_le _, .bool _, trivial, rfl⟩

end Go.Am
