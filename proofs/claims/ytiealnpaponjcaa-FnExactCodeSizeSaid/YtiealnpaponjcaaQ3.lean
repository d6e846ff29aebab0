/- Copies of trees. -/
import Derived.Test.YtiealnpaponjcaaQ2
set_option linter.unusedVariables false
set_option linter.unusedSimpArgs false
namespace Go.Am
open Go Go.RowKit Go.Proofs

theorem toKey_ok (k : K) : ACall Try.prog 59 [.agg k.cells] [] (fun res h => res = .agg k.cells ∧ h = []) := by
  refine ACall.of_vc tab_ok mixed Try.func59 rfl (by kernel_rfl) _ _ _ rfl (by kernel_rfl) ?_
  refine ⟨rfl, rfl, rfl, rfl, rfl, rfl, rfl, rfl, rfl, rfl, rfl, rfl, rfl, rfl, rfl, ?_⟩
  exact ⟨[], .agg k.cells, [], by simp, Nat.zero_le _, .agg_l ⟨.bool_eq rfl, .int_eq rfl, .str_eq rfl, trivial⟩, trivial, rfl, rfl⟩

abbrev ToV (v : V) : Prop := ACall Try.prog 8 [.agg v.cells] [] (fun res h => res = .agg v.cells ∧ h = [])

theorem toEntry_ok (k : K) (v : V) (hv : ToV v) : ACall Try.prog 48 [.agg (ecells k v)] [] (fun res h => res = .agg (ecells k v) ∧ h = []) := by
  refine ACall.of_vc tab_ok mixed Try.func48 rfl (by kernel_rfl) _ _ _ rfl (by kernel_rfl) ?_
  refine ⟨rfl, rfl, ?_⟩
  refine ⟨_, (toKey_ok k).frame _ rfl, ?_⟩
  rintro _ _ ⟨_, _, ⟨rfl, rfl⟩, rfl, rfl⟩
  refine ⟨rfl, rfl, rfl, rfl, ?_⟩
  refine ⟨_, hv.frame _ rfl, ?_⟩
  rintro _ _ ⟨_, _, ⟨rfl, rfl⟩, rfl, rfl⟩
  refine ⟨rfl, rfl, rfl, rfl, rfl, ?_⟩
  exact ⟨[], .agg (ecells k v), [], by simp, Nat.zero_le _, .agg_l ⟨.bool_eq rfl, .int_eq rfl, .str_eq rfl, .int_eq rfl, .int_eq rfl, .str_eq rfl, .int_eq rfl, .slc_eq rfl (fun _ _ => rfl), trivial⟩, trivial, rfl, rfl⟩

theorem toEntryS_ok (n : Nat) (hn : n ≤ 1048576) (key : Nat → K) (val : Nat → V) (hv : ∀ i, i < n → ToV (val i)) :
    ACall Try.prog 26 [.slc 8 n (fun i => ecells (key i) (val i))] [] (fun res h => res = .slc 8 n (fun i => ecells (key i) (val i)) ∧ h = []) := by
  refine ACall.of_vc tab_ok mixed Try.func26 rfl (by kernel_rfl) _ _ _ rfl (by kernel_rfl) ?_
  refine ⟨⟨by omega, by omega, by omega, by simp; omega⟩, ?_⟩
  refine LoopVC.mk Nat (fun k => [(0, .slc 8 n (fun i => ecells (key i) (val i))), (3, .own 0 0 0 n), (4, .int .i64 k)])
    (fun k => [.row 0 8 n 91 (fun i => ecells (if i < k then key i else ⟨false, 0, []⟩) (if i < k then val i else .none))]) (fun k => k ≤ n) (fun k => n - k) 0 (Nat.zero_le _) ?_ (fun k hk => ?_)
  · exact ⟨[0], by simp, Nat.zero_le _, ⟨.slc_eq rfl (fun _ _ => rfl), .own_eq rfl ⟨_, _, _, _, rfl⟩ ⟨_, _, _, _, rfl⟩ rfl rfl, .int_eq rfl, trivial⟩,
      ⟨fun _ => ⟨rfl, rfl⟩, rfl, rfl, rfl, fun i hi => ⟨.bool_eq rfl, .int_eq rfl, .str_eq rfl, .int_eq rfl, .int_eq rfl, .str_eq rfl, .int_eq rfl, .nils0 _ _, trivial⟩⟩, trivial⟩
  · refine splitB.mk (fun h => ?_) (fun h => ?_)
    · have h := of_decide_eq_true h
      have hkn : k < n := by omega
      refine ⟨⟨by omega, by omega⟩, ?_⟩
      refine ⟨_, (toEntry_ok (key k) (val k) (hv k hkn)).frame _ rfl, ?_⟩
      rintro _ _ ⟨_, _, ⟨rfl, rfl⟩, rfl, rfl⟩
      refine ⟨rfl, ⟨by omega, by omega⟩, rfl, ?_⟩
      refine ⟨k + 1, by omega, by omega, [0], by simp, Nat.zero_le _, ⟨.slc_eq rfl (fun _ _ => rfl), .own_eq rfl ⟨_, _, _, _, rfl⟩ ⟨_, _, _, _, rfl⟩ rfl rfl, .int_eq (by rw [w64] <;> omega), trivial⟩, ⟨fun _ => ⟨rfl, rfl⟩, rfl, rfl, rfl, ?_⟩, trivial⟩
      refine fzl_set ⟨.bool_eq (by simp), .int_eq (by simp), .str_eq (by simp), .int_eq (by simp), .int_eq (by simp), .str_eq (by simp), .int_eq (by simp), .slc_eq (by simp) (fun _ _ => by simp), trivial⟩ (fun i hi hne => ?_)
      have hik : i ≠ k := by simpa using hne
      have e : (i < k + 1) = (i < k) := by simp only [eq_iff_iff]; omega
      simp only [e]
      exact ⟨.bool_eq rfl, .int_eq rfl, .str_eq rfl, .int_eq rfl, .int_eq rfl, .str_eq rfl, .int_eq rfl, .slc_eq rfl (fun _ _ => rfl), trivial⟩
    · have h := of_decide_eq_false h
      have hkn : k = n := by omega
      subst hkn
      refine ⟨[], .slc 8 k (fun i => ecells (key i) (val i)), [], by simp, Nat.zero_le _, .frz_eq (by simp) rfl rfl rfl (fun i hi => rfl) (fun i hi => ?_), trivial, rfl, rfl⟩
      simp only [Nat.zero_add, if_pos hi]
      exact ⟨.bool_eq rfl, .int_eq rfl, .str_eq rfl, .int_eq rfl, .int_eq rfl, .str_eq rfl, .int_eq rfl, .slc_eq rfl (fun _ _ => rfl), trivial⟩

theorem toValue_ok : ∀ v : V, v.Small → ToV v
  | .none, ok => ok.elim
  | .mk kind num str next n key val, ok => by
    have ih : ∀ i, i < n → ToV (val i) := fun i hi => toValue_ok (val i) (ok.2.2 i hi).2
    refine ACall.of_vc tab_ok mixed Try.func8 rfl (by kernel_rfl) _ _ _ rfl (by kernel_rfl) ?_
    refine ⟨rfl, rfl, rfl, rfl, rfl, rfl, rfl, rfl, rfl, rfl, rfl, rfl, rfl, rfl, rfl, rfl, rfl, rfl, ?_⟩
    refine ⟨_, (toEntryS_ok n ok.2.1 key val ih).frame _ rfl, ?_⟩
    rintro _ _ ⟨_, _, ⟨rfl, rfl⟩, rfl, rfl⟩
    refine ⟨rfl, rfl, rfl, rfl, rfl, ?_⟩
    exact ⟨[], .agg (V.mk kind num str next n key val).cells, [], by simp, Nat.zero_le _, .agg_l ⟨.int_eq rfl, .int_eq rfl, .str_eq rfl, .int_eq rfl, .slc_eq rfl (fun _ _ => rfl), trivial⟩, trivial, rfl, rfl⟩

end Go.Am
