/- The law on CodeSize. -/
import Derived.Test.YtiealnpaponjcaaU4
set_option linter.unusedVariables false
set_option linter.unusedSimpArgs false
namespace Go.Am
open Go Go.RowKit Go.Proofs

def codeSum (f : Nat → TFunc) : Nat → Int
  | 0 => 0
  | k + 1 => IntKind.i64.wrap (codeSum f k + (f k).codeN)

theorem csS_ok (p : TProgram) (hn : p.funcsN ≤ 1048576) : ACall Try.prog 19 [.agg p.cells] [] (fun res h => res = .int .i64 (codeSum p.funcs p.funcsN) ∧ h = []) := by
  refine ACall.of_vc tabT_ok mixed Try.func19 rfl (by kernel_rfl) _ _ _ rfl (by kernel_rfl) ?_
  refine LoopVC.mk Nat (fun k => [(1, .optr 0 0 0 0), (3, .int .i64 (codeSum p.funcs k)), (4, .int .i64 k)]) (fun _ => [.row 0 2 1 53 (fun _ => p.cells)]) (fun k => k ≤ p.funcsN) (fun k => p.funcsN - k) 0 (Nat.zero_le _) ?_ (fun k hk => ?_)
  · exact ⟨[0], by simp, Nat.zero_le _, ⟨.optr_eq rfl ⟨_, _, _, _, rfl⟩ ⟨_, _, _, _, rfl⟩ rfl rfl, .int_eq rfl, .int_eq rfl, trivial⟩, ⟨fun _ => ⟨rfl, rfl⟩, rfl, rfl, rfl, fun i hi => ⟨.slc_eq rfl (fun _ _ => rfl), .slc_eq rfl (fun _ _ => rfl), trivial⟩⟩, trivial⟩
  · refine ⟨rfl, rfl, ?_⟩
    refine splitB.mk (fun h => ?_) (fun h => ?_)
    · have h := of_decide_eq_true h
      have hkn : k < p.funcsN := by omega
      refine ⟨rfl, rfl, ⟨by omega, by omega⟩, ?_⟩
      exact ⟨k + 1, by omega, by omega, [0], by simp, Nat.zero_le _, ⟨.optr_eq rfl ⟨_, _, _, _, rfl⟩ ⟨_, _, _, _, rfl⟩ rfl rfl, .int_eq rfl, .int_eq (by rw [w64] <;> omega), trivial⟩, ⟨fun _ => ⟨rfl, rfl⟩, rfl, rfl, rfl, fun i hi => ⟨.slc_eq rfl (fun _ _ => rfl), .slc_eq rfl (fun _ _ => rfl), trivial⟩⟩, trivial⟩
    · have h := of_decide_eq_false h
      have hkn : k = p.funcsN := by omega
      subst hkn
      exact ⟨[], .int .i64 (codeSum p.funcs p.funcsN), [], by simp, Nat.zero_le _, .int _ _, trivial, rfl, rfl⟩

theorem csI_ok (p : TProgram) (hn : p.funcsN ≤ 1048576) : ACall Try.prog 21 [.agg p.cells] [] (fun res h => res = .int .i64 (codeSum p.funcs p.funcsN) ∧ h = []) := by
  refine ACall.of_vc tabT_ok mixed Try.func21 rfl (by kernel_rfl) _ _ _ rfl (by kernel_rfl) ?_
  refine ⟨rfl, rfl, ?_⟩
  refine LoopVC.mk Nat (fun k => [(3, .int .i64 (codeSum p.funcs k)), (7, .slc 6 p.funcsN (fun i => (p.funcs i).cells)), (8, .int .i64 p.funcsN), (9, .int .i64 k)]) (fun _ => []) (fun k => k ≤ p.funcsN) (fun k => p.funcsN - k) 0 (Nat.zero_le _) ?_ (fun k hk => ?_)
  · exact ⟨[], by simp, Nat.zero_le _, ⟨.int_eq rfl, .slc_eq rfl (fun _ _ => rfl), .int_eq rfl, .int_eq rfl, trivial⟩, trivial⟩
  · refine splitB.mk (fun h => ?_) (fun h => ?_)
    · have h := of_decide_eq_true h
      have hkn : k < p.funcsN := by omega
      refine ⟨⟨by omega, by omega⟩, rfl, rfl, rfl, ?_⟩
      exact ⟨k + 1, by omega, by omega, [], by simp, Nat.zero_le _, ⟨.int_eq rfl, .slc_eq rfl (fun _ _ => rfl), .int_eq rfl, .int_eq (by rw [w64] <;> omega), trivial⟩, trivial⟩
    · have h := of_decide_eq_false h
      have hkn : k = p.funcsN := by omega
      subst hkn
      exact ⟨[], .int .i64 (codeSum p.funcs p.funcsN), [], by simp, Nat.zero_le _, .int _ _, trivial, rfl, rfl⟩

theorem lawCodeSize (p : TProgram) (ok : p.Ok) : ACall Try.prog 5 [.agg p.cells] [] (fun res _ => res = .bool true) := by
  refine ACall.of_vc tabT_ok mixed Try.func5 rfl (by kernel_rfl) _ _ _ rfl (by kernel_rfl) ?_
  refine ⟨rfl, ?_⟩
  refine ⟨_, szF (szTProgram p ok 1048576 (by omega) (by omega)) _ rfl, ?_⟩
  rintro _ _ ⟨r, rfl, rfl, _, _, r3⟩
  refine splitB.mk (fun h => ?_) (fun h => ?_)
  · exact ⟨[], .bool true, [], by simp, Nat.zero_le _, .bool _, trivial, rfl⟩
  · have h := of_decide_eq_false h
    have sm := r3 (by omega)
    have top := toTProgram p sm
    have eqp := eqTProgram p ok
    refine ⟨rfl, ?_⟩
    refine ⟨_, top.frame0 _ rfl (fun _ => rfl), ?_⟩
    rintro _ _ ⟨rfl, rfl⟩
    refine ⟨_, (csS_ok p sm.funcsN).frame0 _ rfl (fun _ => rfl), ?_⟩
    rintro _ _ ⟨rfl, rfl⟩
    refine ⟨rfl, ?_⟩
    refine ⟨_, top.frame0 _ rfl (fun _ => rfl), ?_⟩
    rintro _ _ ⟨rfl, rfl⟩
    refine ⟨rfl, rfl, ?_⟩
    refine ⟨_, (csI_ok p sm.funcsN).frame0 _ rfl (fun _ => rfl), ?_⟩
    rintro _ _ ⟨rfl, rfl⟩
    refine splitB.mk (fun h => absurd h (by simp)) (fun _ => ?_)
    refine .orders [(26, .bool false)] [] (by kernel_rfl) ⟨⟨rfl, rfl, ?_⟩, ⟨rfl, ⟨rfl, ?_⟩, ?_⟩⟩ ?_
    · refine ⟨_, top.frame0 _ rfl (fun _ => rfl), ?_⟩
      rintro _ _ ⟨rfl, rfl⟩
      refine ⟨_, eqp.frame0 _ rfl (fun _ => rfl), ?_⟩
      rintro _ _ ⟨rfl, rfl⟩
      exact ⟨[], by simp, Nat.zero_le _, ⟨.bool_eq rfl, trivial⟩, trivial⟩
    · refine ⟨_, top.frame0 _ rfl (fun _ => rfl), ?_⟩
      rintro _ _ ⟨rfl, rfl⟩
      refine ⟨_, eqp.frame0 _ rfl (fun _ => rfl), ?_⟩
      rintro _ _ ⟨rfl, rfl⟩
      exact ⟨[], by simp, Nat.zero_le _, ⟨.bool_eq rfl, trivial⟩, trivial⟩
    · refine ⟨_, top.frame0 _ rfl (fun _ => rfl), ?_⟩
      rintro _ _ ⟨rfl, rfl⟩
      refine ⟨rfl, ?_⟩
      refine ⟨_, eqp.frame0 _ rfl (fun _ => rfl), ?_⟩
      rintro _ _ ⟨rfl, rfl⟩
      exact ⟨[], by simp, Nat.zero_le _, ⟨.bool_eq rfl, trivial⟩, trivial⟩
    · refine splitB.mk (fun h => absurd h (by decide)) (fun _ => ?_)
      exact ⟨[], .bool true, [], by simp, Nat.zero_le _, .bool _, trivial, rfl⟩

/-- A tree that came in, as an argument. -/
theorem argT {H : Type} {enc : TypeId × Value → H} {w : World} {spare : Nat → Bool} {held : Bool} {α : Type} (cells : α → List PV) (good : α → Prop) {P : Program} {t : TypeId}
    (prep : ∀ (fuel : Nat) (cs : List Value) (x : DataW H × List MemPlace), DataW.trod enc P w 0 spare held fuel t cs = some x → ∃ a, good a ∧ CellsRep (fun b => b < w.heap.size) w (cells a) cs)
    {cs : Array Value} {d : DataW H} {p : List MemPlace} (h : DataW.Trod enc P w 0 spare held t (.agg cs) d p) : ∃ a, good a ∧ ARep (fun _ => none) [] (fun b => b < w.heap.size) w (.agg (cells a)) (.agg cs) := by
  obtain ⟨fuel, hf⟩ := h
  obtain ⟨a, ha, hl, hc⟩ := prep fuel _ _ hf
  refine ⟨a, ha, cs, rfl, by have h' : cs.toList.length = _ := hl; simpa using h', fun j pv hj => ?_⟩
  obtain ⟨u, hu, hr⟩ := hc j pv hj
  exact ⟨u, by have h' : cs.toList[j]? = some u := hu; simpa using h', CRep.of_pure hr⟩

end Go.Am
