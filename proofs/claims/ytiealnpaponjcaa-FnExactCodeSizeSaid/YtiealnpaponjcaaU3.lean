/- Copies of trees. -/
import Derived.Test.YtiealnpaponjcaaU2
set_option linter.unusedVariables false
set_option linter.unusedSimpArgs false
namespace Go.Am
open Go Go.RowKit Go.Proofs

theorem toTParam (x : TParam) (sm : x.Small) : ACall Try.prog 79 [.agg x.cells] [] (fun res h => res = .agg x.cells ∧ h = []) := by
  refine ACall.of_vc tabT_ok mixed Try.func79 rfl (by kernel_rfl) _ _ _ rfl (by kernel_rfl) ?_
  refine ⟨rfl, rfl, rfl, rfl, ?_⟩
  refine ⟨rfl, rfl, rfl, rfl, ?_⟩
  refine ⟨rfl, rfl, rfl, ?_⟩
  exact ⟨[], .agg x.cells, [], by simp, Nat.zero_le _, .agg_l ⟨.str_eq rfl, .bool_eq rfl, trivial⟩, trivial, rfl, rfl⟩

theorem toTIns (x : TIns) (sm : x.Small) : ACall Try.prog 14 [.agg x.cells] [] (fun res h => res = .agg x.cells ∧ h = []) := by
  refine ACall.of_vc tabT_ok mixed Try.func14 rfl (by kernel_rfl) _ _ _ rfl (by kernel_rfl) ?_
  refine ⟨rfl, rfl, rfl, rfl, ?_⟩
  refine ⟨rfl, rfl, rfl, rfl, ?_⟩
  refine ⟨rfl, rfl, rfl, rfl, ?_⟩
  refine ⟨rfl, rfl, rfl, rfl, ?_⟩
  refine ⟨rfl, rfl, rfl, rfl, ?_⟩
  refine ⟨rfl, rfl, rfl, ?_⟩
  exact ⟨[], .agg x.cells, [], by simp, Nat.zero_le _, .agg_l ⟨.int_eq rfl, .int_eq rfl, .int_eq rfl, .str_eq rfl, .str_eq rfl, trivial⟩, trivial, rfl, rfl⟩

theorem toTParamS (n : Nat) (hn : n ≤ 1048576) (f : Nat → TParam) (hf : ∀ i, i < n → (f i).Small) :
    ACall Try.prog 66 [.slc 2 n (fun i => TParam.cells (f i))] [] (fun res h => res = .slc 2 n (fun i => TParam.cells (f i)) ∧ h = []) := by
  refine ACall.of_vc tabT_ok mixed Try.func66 rfl (by kernel_rfl) _ _ _ rfl (by kernel_rfl) ?_
  refine ⟨⟨by omega, by omega, by omega, by simp; omega⟩, ?_⟩
  refine LoopVC.mk Nat (fun k => [(0, .slc 2 n (fun i => TParam.cells (f i))), (3, .own 0 0 0 n), (4, .int .i64 k)])
    (fun k => [.row 0 2 n 141 (fun i => TParam.cells (if i < k then f i else TParam.zero))]) (fun k => k ≤ n) (fun k => n - k) 0 (Nat.zero_le _) ?_ (fun k hk => ?_)
  · exact ⟨[0], by simp, Nat.zero_le _, ⟨.slc_eq rfl (fun _ _ => rfl), .own_eq rfl ⟨_, _, _, _, rfl⟩ ⟨_, _, _, _, rfl⟩ rfl rfl, .int_eq rfl, trivial⟩,
      ⟨fun _ => ⟨rfl, rfl⟩, rfl, rfl, rfl, fun i hi => ⟨.str_eq rfl, .bool_eq rfl, trivial⟩⟩, trivial⟩
  · refine splitB.mk (fun h => ?_) (fun h => ?_)
    · have h := of_decide_eq_true h
      have hkn : k < n := by omega
      refine ⟨⟨by omega, by omega⟩, ?_⟩
      refine ⟨_, (toTParam (f k) (hf k hkn)).frame0 _ rfl (fun _ => rfl), ?_⟩
      rintro _ _ ⟨rfl, rfl⟩
      refine ⟨rfl, ⟨by omega, by omega⟩, rfl, ?_⟩
      refine ⟨k + 1, by omega, by omega, [0], by simp, Nat.zero_le _, ⟨.slc_eq rfl (fun _ _ => rfl), .own_eq rfl ⟨_, _, _, _, rfl⟩ ⟨_, _, _, _, rfl⟩ rfl rfl, .int_eq (by rw [w64] <;> omega), trivial⟩, ⟨fun _ => ⟨rfl, rfl⟩, rfl, rfl, rfl, ?_⟩, trivial⟩
      refine fzl_set ⟨.str_eq (by simp), .bool_eq (by simp), trivial⟩ (fun i hi hne => ?_)
      have hik : i ≠ k := by simpa using hne
      have e : (i < k + 1) = (i < k) := by simp only [eq_iff_iff]; omega
      simp only [e]
      exact ⟨.str_eq rfl, .bool_eq rfl, trivial⟩
    · have h := of_decide_eq_false h
      have hkn : k = n := by omega
      subst hkn
      refine ⟨[], .slc 2 k (fun i => TParam.cells (f i)), [], by simp, Nat.zero_le _, .frz_eq (by simp) rfl rfl rfl (fun i hi => rfl) (fun i hi => ?_), trivial, rfl, rfl⟩
      simp only [Nat.zero_add, if_pos hi]
      exact ⟨.str_eq rfl, .bool_eq rfl, trivial⟩

theorem toTStringS (n : Nat) (hn : n ≤ 1048576) (f : Nat → List UInt8) :
    ACall Try.prog 67 [.slc 1 n (fun i => [.str (f i)])] [] (fun res h => res = .slc 1 n (fun i => [.str (f i)]) ∧ h = []) := by
  refine ACall.of_vc tabT_ok mixed Try.func67 rfl (by kernel_rfl) _ _ _ rfl (by kernel_rfl) ?_
  refine ⟨⟨by omega, by omega, by omega, by simp; omega⟩, ?_⟩
  refine LoopVC.mk Nat (fun k => [(0, .slc 1 n (fun i => [.str (f i)])), (3, .own 0 0 0 n), (4, .int .i64 k)])
    (fun k => [.row 0 1 n 9 (fun i => [.str (if i < k then f i else [])])]) (fun k => k ≤ n) (fun k => n - k) 0 (Nat.zero_le _) ?_ (fun k hk => ?_)
  · exact ⟨[0], by simp, Nat.zero_le _, ⟨.slc_eq rfl (fun _ _ => rfl), .own_eq rfl ⟨_, _, _, _, rfl⟩ ⟨_, _, _, _, rfl⟩ rfl rfl, .int_eq rfl, trivial⟩,
      ⟨fun _ => ⟨rfl, rfl⟩, rfl, rfl, rfl, fun i hi => ⟨.str_eq rfl, trivial⟩⟩, trivial⟩
  · refine splitB.mk (fun h => ?_) (fun h => ?_)
    · have h := of_decide_eq_true h
      have hkn : k < n := by omega
      refine ⟨⟨by omega, by omega⟩, ?_⟩
      refine ⟨rfl, ⟨by omega, by omega⟩, rfl, ?_⟩
      refine ⟨k + 1, by omega, by omega, [0], by simp, Nat.zero_le _, ⟨.slc_eq rfl (fun _ _ => rfl), .own_eq rfl ⟨_, _, _, _, rfl⟩ ⟨_, _, _, _, rfl⟩ rfl rfl, .int_eq (by rw [w64] <;> omega), trivial⟩, ⟨fun _ => ⟨rfl, rfl⟩, rfl, rfl, rfl, ?_⟩, trivial⟩
      refine fzl_set ⟨.str_eq (by simp), trivial⟩ (fun i hi hne => ?_)
      have hik : i ≠ k := by simpa using hne
      have e : (i < k + 1) = (i < k) := by simp only [eq_iff_iff]; omega
      simp only [e]
      exact ⟨.str_eq rfl, trivial⟩
    · have h := of_decide_eq_false h
      have hkn : k = n := by omega
      subst hkn
      refine ⟨[], .slc 1 k (fun i => [.str (f i)]), [], by simp, Nat.zero_le _, .frz_eq (by simp) rfl rfl rfl (fun i hi => rfl) (fun i hi => ?_), trivial, rfl, rfl⟩
      simp only [Nat.zero_add, if_pos hi]
      exact ⟨.str_eq rfl, trivial⟩

theorem toTInsS (n : Nat) (hn : n ≤ 1048576) (f : Nat → TIns) (hf : ∀ i, i < n → (f i).Small) :
    ACall Try.prog 68 [.slc 5 n (fun i => TIns.cells (f i))] [] (fun res h => res = .slc 5 n (fun i => TIns.cells (f i)) ∧ h = []) := by
  refine ACall.of_vc tabT_ok mixed Try.func68 rfl (by kernel_rfl) _ _ _ rfl (by kernel_rfl) ?_
  refine ⟨⟨by omega, by omega, by omega, by simp; omega⟩, ?_⟩
  refine LoopVC.mk Nat (fun k => [(0, .slc 5 n (fun i => TIns.cells (f i))), (3, .own 0 0 0 n), (4, .int .i64 k)])
    (fun k => [.row 0 5 n 27 (fun i => TIns.cells (if i < k then f i else TIns.zero))]) (fun k => k ≤ n) (fun k => n - k) 0 (Nat.zero_le _) ?_ (fun k hk => ?_)
  · exact ⟨[0], by simp, Nat.zero_le _, ⟨.slc_eq rfl (fun _ _ => rfl), .own_eq rfl ⟨_, _, _, _, rfl⟩ ⟨_, _, _, _, rfl⟩ rfl rfl, .int_eq rfl, trivial⟩,
      ⟨fun _ => ⟨rfl, rfl⟩, rfl, rfl, rfl, fun i hi => ⟨.int_eq rfl, .int_eq rfl, .int_eq rfl, .str_eq rfl, .str_eq rfl, trivial⟩⟩, trivial⟩
  · refine splitB.mk (fun h => ?_) (fun h => ?_)
    · have h := of_decide_eq_true h
      have hkn : k < n := by omega
      refine ⟨⟨by omega, by omega⟩, ?_⟩
      refine ⟨_, (toTIns (f k) (hf k hkn)).frame0 _ rfl (fun _ => rfl), ?_⟩
      rintro _ _ ⟨rfl, rfl⟩
      refine ⟨rfl, ⟨by omega, by omega⟩, rfl, ?_⟩
      refine ⟨k + 1, by omega, by omega, [0], by simp, Nat.zero_le _, ⟨.slc_eq rfl (fun _ _ => rfl), .own_eq rfl ⟨_, _, _, _, rfl⟩ ⟨_, _, _, _, rfl⟩ rfl rfl, .int_eq (by rw [w64] <;> omega), trivial⟩, ⟨fun _ => ⟨rfl, rfl⟩, rfl, rfl, rfl, ?_⟩, trivial⟩
      refine fzl_set ⟨.int_eq (by simp), .int_eq (by simp), .int_eq (by simp), .str_eq (by simp), .str_eq (by simp), trivial⟩ (fun i hi hne => ?_)
      have hik : i ≠ k := by simpa using hne
      have e : (i < k + 1) = (i < k) := by simp only [eq_iff_iff]; omega
      simp only [e]
      exact ⟨.int_eq rfl, .int_eq rfl, .int_eq rfl, .str_eq rfl, .str_eq rfl, trivial⟩
    · have h := of_decide_eq_false h
      have hkn : k = n := by omega
      subst hkn
      refine ⟨[], .slc 5 k (fun i => TIns.cells (f i)), [], by simp, Nat.zero_le _, .frz_eq (by simp) rfl rfl rfl (fun i hi => rfl) (fun i hi => ?_), trivial, rfl, rfl⟩
      simp only [Nat.zero_add, if_pos hi]
      exact ⟨.int_eq rfl, .int_eq rfl, .int_eq rfl, .str_eq rfl, .str_eq rfl, trivial⟩

theorem toTFunc (x : TFunc) (sm : x.Small) : ACall Try.prog 54 [.agg x.cells] [] (fun res h => res = .agg x.cells ∧ h = []) := by
  refine ACall.of_vc tabT_ok mixed Try.func54 rfl (by kernel_rfl) _ _ _ rfl (by kernel_rfl) ?_
  refine ⟨rfl, rfl, rfl, rfl, ?_⟩
  refine ⟨rfl, rfl, ?_⟩
  refine ⟨_, (toTParamS x.paramsN sm.paramsN x.params sm.params).frame0 _ rfl (fun _ => rfl), ?_⟩
  rintro _ _ ⟨rfl, rfl⟩
  refine ⟨rfl, rfl, ?_⟩
  refine ⟨rfl, rfl, ?_⟩
  refine ⟨_, (toTParamS x.usesN sm.usesN x.uses sm.uses).frame0 _ rfl (fun _ => rfl), ?_⟩
  rintro _ _ ⟨rfl, rfl⟩
  refine ⟨rfl, rfl, ?_⟩
  refine ⟨rfl, rfl, ?_⟩
  refine ⟨_, (toTStringS x.slotsN sm.slotsN x.slots).frame0 _ rfl (fun _ => rfl), ?_⟩
  rintro _ _ ⟨rfl, rfl⟩
  refine ⟨rfl, rfl, ?_⟩
  refine ⟨rfl, rfl, rfl, rfl, ?_⟩
  refine ⟨rfl, rfl, ?_⟩
  refine ⟨_, (toTInsS x.codeN sm.codeN x.code sm.code).frame0 _ rfl (fun _ => rfl), ?_⟩
  rintro _ _ ⟨rfl, rfl⟩
  refine ⟨rfl, rfl, ?_⟩
  refine ⟨rfl, rfl, rfl, ?_⟩
  exact ⟨[], .agg x.cells, [], by simp, Nat.zero_le _, .agg_l ⟨.str_eq rfl, .slc_eq rfl (fun _ _ => rfl), .slc_eq rfl (fun _ _ => rfl), .slc_eq rfl (fun _ _ => rfl), .bool_eq rfl, .slc_eq rfl (fun _ _ => rfl), trivial⟩, trivial, rfl, rfl⟩

theorem toTField (x : TField) (sm : x.Small) : ACall Try.prog 80 [.agg x.cells] [] (fun res h => res = .agg x.cells ∧ h = []) := by
  refine ACall.of_vc tabT_ok mixed Try.func80 rfl (by kernel_rfl) _ _ _ rfl (by kernel_rfl) ?_
  refine ⟨rfl, rfl, rfl, rfl, ?_⟩
  refine ⟨rfl, rfl, rfl, rfl, ?_⟩
  refine ⟨rfl, rfl, rfl, rfl, ?_⟩
  refine ⟨rfl, rfl, ?_⟩
  refine ⟨_, (toValue_ok x.init sm.init).frame0 _ rfl (fun _ => rfl), ?_⟩
  rintro _ _ ⟨rfl, rfl⟩
  refine ⟨rfl, rfl, ?_⟩
  refine ⟨rfl, rfl, rfl, ?_⟩
  exact ⟨[], .agg x.cells, [], by simp, Nat.zero_le _, .agg_l ⟨.str_eq rfl, .str_eq rfl, .bool_eq rfl, .int_eq rfl, .int_eq rfl, .str_eq rfl, .int_eq rfl, .slc_eq rfl (fun _ _ => rfl), trivial⟩, trivial, rfl, rfl⟩

theorem toTMethod (x : TMethod) (sm : x.Small) : ACall Try.prog 81 [.agg x.cells] [] (fun res h => res = .agg x.cells ∧ h = []) := by
  refine ACall.of_vc tabT_ok mixed Try.func81 rfl (by kernel_rfl) _ _ _ rfl (by kernel_rfl) ?_
  refine ⟨rfl, rfl, rfl, rfl, ?_⟩
  refine ⟨rfl, rfl, rfl, rfl, ?_⟩
  refine ⟨rfl, rfl, rfl, rfl, ?_⟩
  refine ⟨rfl, rfl, rfl, rfl, ?_⟩
  refine ⟨rfl, rfl, rfl, rfl, ?_⟩
  refine ⟨rfl, rfl, rfl, ?_⟩
  exact ⟨[], .agg x.cells, [], by simp, Nat.zero_le _, .agg_l ⟨.str_eq rfl, .str_eq rfl, .str_eq rfl, .bool_eq rfl, .bool_eq rfl, trivial⟩, trivial, rfl, rfl⟩

theorem toTFieldS (n : Nat) (hn : n ≤ 1048576) (f : Nat → TField) (hf : ∀ i, i < n → (f i).Small) :
    ACall Try.prog 69 [.slc 8 n (fun i => TField.cells (f i))] [] (fun res h => res = .slc 8 n (fun i => TField.cells (f i)) ∧ h = []) := by
  refine ACall.of_vc tabT_ok mixed Try.func69 rfl (by kernel_rfl) _ _ _ rfl (by kernel_rfl) ?_
  refine ⟨⟨by omega, by omega, by omega, by simp; omega⟩, ?_⟩
  refine LoopVC.mk Nat (fun k => [(0, .slc 8 n (fun i => TField.cells (f i))), (3, .own 0 0 0 n), (4, .int .i64 k)])
    (fun k => [.row 0 8 n 144 (fun i => TField.cells (if i < k then f i else TField.zero))]) (fun k => k ≤ n) (fun k => n - k) 0 (Nat.zero_le _) ?_ (fun k hk => ?_)
  · exact ⟨[0], by simp, Nat.zero_le _, ⟨.slc_eq rfl (fun _ _ => rfl), .own_eq rfl ⟨_, _, _, _, rfl⟩ ⟨_, _, _, _, rfl⟩ rfl rfl, .int_eq rfl, trivial⟩,
      ⟨fun _ => ⟨rfl, rfl⟩, rfl, rfl, rfl, fun i hi => ⟨.str_eq rfl, .str_eq rfl, .bool_eq rfl, .int_eq rfl, .int_eq rfl, .str_eq rfl, .int_eq rfl, .nils0 _ _, trivial⟩⟩, trivial⟩
  · refine splitB.mk (fun h => ?_) (fun h => ?_)
    · have h := of_decide_eq_true h
      have hkn : k < n := by omega
      refine ⟨⟨by omega, by omega⟩, ?_⟩
      refine ⟨_, (toTField (f k) (hf k hkn)).frame0 _ rfl (fun _ => rfl), ?_⟩
      rintro _ _ ⟨rfl, rfl⟩
      refine ⟨rfl, ⟨by omega, by omega⟩, rfl, ?_⟩
      refine ⟨k + 1, by omega, by omega, [0], by simp, Nat.zero_le _, ⟨.slc_eq rfl (fun _ _ => rfl), .own_eq rfl ⟨_, _, _, _, rfl⟩ ⟨_, _, _, _, rfl⟩ rfl rfl, .int_eq (by rw [w64] <;> omega), trivial⟩, ⟨fun _ => ⟨rfl, rfl⟩, rfl, rfl, rfl, ?_⟩, trivial⟩
      refine fzl_set ⟨.str_eq (by simp), .str_eq (by simp), .bool_eq (by simp), .int_eq (by simp), .int_eq (by simp), .str_eq (by simp), .int_eq (by simp), .slc_eq (by simp) (fun _ _ => by simp), trivial⟩ (fun i hi hne => ?_)
      have hik : i ≠ k := by simpa using hne
      have e : (i < k + 1) = (i < k) := by simp only [eq_iff_iff]; omega
      simp only [e]
      exact ⟨.str_eq rfl, .str_eq rfl, .bool_eq rfl, .int_eq rfl, .int_eq rfl, .str_eq rfl, .int_eq rfl, .slc_eq rfl (fun _ _ => rfl), trivial⟩
    · have h := of_decide_eq_false h
      have hkn : k = n := by omega
      subst hkn
      refine ⟨[], .slc 8 k (fun i => TField.cells (f i)), [], by simp, Nat.zero_le _, .frz_eq (by simp) rfl rfl rfl (fun i hi => rfl) (fun i hi => ?_), trivial, rfl, rfl⟩
      simp only [Nat.zero_add, if_pos hi]
      exact ⟨.str_eq rfl, .str_eq rfl, .bool_eq rfl, .int_eq rfl, .int_eq rfl, .str_eq rfl, .int_eq rfl, .slc_eq rfl (fun _ _ => rfl), trivial⟩

theorem toTMethodS (n : Nat) (hn : n ≤ 1048576) (f : Nat → TMethod) (hf : ∀ i, i < n → (f i).Small) :
    ACall Try.prog 70 [.slc 5 n (fun i => TMethod.cells (f i))] [] (fun res h => res = .slc 5 n (fun i => TMethod.cells (f i)) ∧ h = []) := by
  refine ACall.of_vc tabT_ok mixed Try.func70 rfl (by kernel_rfl) _ _ _ rfl (by kernel_rfl) ?_
  refine ⟨⟨by omega, by omega, by omega, by simp; omega⟩, ?_⟩
  refine LoopVC.mk Nat (fun k => [(0, .slc 5 n (fun i => TMethod.cells (f i))), (3, .own 0 0 0 n), (4, .int .i64 k)])
    (fun k => [.row 0 5 n 146 (fun i => TMethod.cells (if i < k then f i else TMethod.zero))]) (fun k => k ≤ n) (fun k => n - k) 0 (Nat.zero_le _) ?_ (fun k hk => ?_)
  · exact ⟨[0], by simp, Nat.zero_le _, ⟨.slc_eq rfl (fun _ _ => rfl), .own_eq rfl ⟨_, _, _, _, rfl⟩ ⟨_, _, _, _, rfl⟩ rfl rfl, .int_eq rfl, trivial⟩,
      ⟨fun _ => ⟨rfl, rfl⟩, rfl, rfl, rfl, fun i hi => ⟨.str_eq rfl, .str_eq rfl, .str_eq rfl, .bool_eq rfl, .bool_eq rfl, trivial⟩⟩, trivial⟩
  · refine splitB.mk (fun h => ?_) (fun h => ?_)
    · have h := of_decide_eq_true h
      have hkn : k < n := by omega
      refine ⟨⟨by omega, by omega⟩, ?_⟩
      refine ⟨_, (toTMethod (f k) (hf k hkn)).frame0 _ rfl (fun _ => rfl), ?_⟩
      rintro _ _ ⟨rfl, rfl⟩
      refine ⟨rfl, ⟨by omega, by omega⟩, rfl, ?_⟩
      refine ⟨k + 1, by omega, by omega, [0], by simp, Nat.zero_le _, ⟨.slc_eq rfl (fun _ _ => rfl), .own_eq rfl ⟨_, _, _, _, rfl⟩ ⟨_, _, _, _, rfl⟩ rfl rfl, .int_eq (by rw [w64] <;> omega), trivial⟩, ⟨fun _ => ⟨rfl, rfl⟩, rfl, rfl, rfl, ?_⟩, trivial⟩
      refine fzl_set ⟨.str_eq (by simp), .str_eq (by simp), .str_eq (by simp), .bool_eq (by simp), .bool_eq (by simp), trivial⟩ (fun i hi hne => ?_)
      have hik : i ≠ k := by simpa using hne
      have e : (i < k + 1) = (i < k) := by simp only [eq_iff_iff]; omega
      simp only [e]
      exact ⟨.str_eq rfl, .str_eq rfl, .str_eq rfl, .bool_eq rfl, .bool_eq rfl, trivial⟩
    · have h := of_decide_eq_false h
      have hkn : k = n := by omega
      subst hkn
      refine ⟨[], .slc 5 k (fun i => TMethod.cells (f i)), [], by simp, Nat.zero_le _, .frz_eq (by simp) rfl rfl rfl (fun i hi => rfl) (fun i hi => ?_), trivial, rfl, rfl⟩
      simp only [Nat.zero_add, if_pos hi]
      exact ⟨.str_eq rfl, .str_eq rfl, .str_eq rfl, .bool_eq rfl, .bool_eq rfl, trivial⟩

theorem toTClass (x : TClass) (sm : x.Small) : ACall Try.prog 55 [.agg x.cells] [] (fun res h => res = .agg x.cells ∧ h = []) := by
  refine ACall.of_vc tabT_ok mixed Try.func55 rfl (by kernel_rfl) _ _ _ rfl (by kernel_rfl) ?_
  refine ⟨rfl, rfl, rfl, rfl, ?_⟩
  refine ⟨rfl, rfl, rfl, rfl, ?_⟩
  refine ⟨rfl, rfl, ?_⟩
  refine ⟨_, (toTFieldS x.fieldsN sm.fieldsN x.fields sm.fields).frame0 _ rfl (fun _ => rfl), ?_⟩
  rintro _ _ ⟨rfl, rfl⟩
  refine ⟨rfl, rfl, ?_⟩
  refine ⟨rfl, rfl, ?_⟩
  refine ⟨_, (toTMethodS x.methodsN sm.methodsN x.methods sm.methods).frame0 _ rfl (fun _ => rfl), ?_⟩
  rintro _ _ ⟨rfl, rfl⟩
  refine ⟨rfl, rfl, ?_⟩
  refine ⟨rfl, rfl, rfl, ?_⟩
  exact ⟨[], .agg x.cells, [], by simp, Nat.zero_le _, .agg_l ⟨.str_eq rfl, .str_eq rfl, .slc_eq rfl (fun _ _ => rfl), .slc_eq rfl (fun _ _ => rfl), trivial⟩, trivial, rfl, rfl⟩

theorem toTFuncS (n : Nat) (hn : n ≤ 1048576) (f : Nat → TFunc) (hf : ∀ i, i < n → (f i).Small) :
    ACall Try.prog 42 [.slc 6 n (fun i => TFunc.cells (f i))] [] (fun res h => res = .slc 6 n (fun i => TFunc.cells (f i)) ∧ h = []) := by
  refine ACall.of_vc tabT_ok mixed Try.func42 rfl (by kernel_rfl) _ _ _ rfl (by kernel_rfl) ?_
  refine ⟨⟨by omega, by omega, by omega, by simp; omega⟩, ?_⟩
  refine LoopVC.mk Nat (fun k => [(0, .slc 6 n (fun i => TFunc.cells (f i))), (3, .own 0 0 0 n), (4, .int .i64 k)])
    (fun k => [.row 0 6 n 79 (fun i => TFunc.cells (if i < k then f i else TFunc.zero))]) (fun k => k ≤ n) (fun k => n - k) 0 (Nat.zero_le _) ?_ (fun k hk => ?_)
  · exact ⟨[0], by simp, Nat.zero_le _, ⟨.slc_eq rfl (fun _ _ => rfl), .own_eq rfl ⟨_, _, _, _, rfl⟩ ⟨_, _, _, _, rfl⟩ rfl rfl, .int_eq rfl, trivial⟩,
      ⟨fun _ => ⟨rfl, rfl⟩, rfl, rfl, rfl, fun i hi => ⟨.str_eq rfl, .nils0 _ _, .nils0 _ _, .nils0 _ _, .bool_eq rfl, .nils0 _ _, trivial⟩⟩, trivial⟩
  · refine splitB.mk (fun h => ?_) (fun h => ?_)
    · have h := of_decide_eq_true h
      have hkn : k < n := by omega
      refine ⟨⟨by omega, by omega⟩, ?_⟩
      refine ⟨_, (toTFunc (f k) (hf k hkn)).frame0 _ rfl (fun _ => rfl), ?_⟩
      rintro _ _ ⟨rfl, rfl⟩
      refine ⟨rfl, ⟨by omega, by omega⟩, rfl, ?_⟩
      refine ⟨k + 1, by omega, by omega, [0], by simp, Nat.zero_le _, ⟨.slc_eq rfl (fun _ _ => rfl), .own_eq rfl ⟨_, _, _, _, rfl⟩ ⟨_, _, _, _, rfl⟩ rfl rfl, .int_eq (by rw [w64] <;> omega), trivial⟩, ⟨fun _ => ⟨rfl, rfl⟩, rfl, rfl, rfl, ?_⟩, trivial⟩
      refine fzl_set ⟨.str_eq (by simp), .slc_eq (by simp) (fun _ _ => by simp), .slc_eq (by simp) (fun _ _ => by simp), .slc_eq (by simp) (fun _ _ => by simp), .bool_eq (by simp), .slc_eq (by simp) (fun _ _ => by simp), trivial⟩ (fun i hi hne => ?_)
      have hik : i ≠ k := by simpa using hne
      have e : (i < k + 1) = (i < k) := by simp only [eq_iff_iff]; omega
      simp only [e]
      exact ⟨.str_eq rfl, .slc_eq rfl (fun _ _ => rfl), .slc_eq rfl (fun _ _ => rfl), .slc_eq rfl (fun _ _ => rfl), .bool_eq rfl, .slc_eq rfl (fun _ _ => rfl), trivial⟩
    · have h := of_decide_eq_false h
      have hkn : k = n := by omega
      subst hkn
      refine ⟨[], .slc 6 k (fun i => TFunc.cells (f i)), [], by simp, Nat.zero_le _, .frz_eq (by simp) rfl rfl rfl (fun i hi => rfl) (fun i hi => ?_), trivial, rfl, rfl⟩
      simp only [Nat.zero_add, if_pos hi]
      exact ⟨.str_eq rfl, .slc_eq rfl (fun _ _ => rfl), .slc_eq rfl (fun _ _ => rfl), .slc_eq rfl (fun _ _ => rfl), .bool_eq rfl, .slc_eq rfl (fun _ _ => rfl), trivial⟩

theorem toTClassS (n : Nat) (hn : n ≤ 1048576) (f : Nat → TClass) (hf : ∀ i, i < n → (f i).Small) :
    ACall Try.prog 43 [.slc 4 n (fun i => TClass.cells (f i))] [] (fun res h => res = .slc 4 n (fun i => TClass.cells (f i)) ∧ h = []) := by
  refine ACall.of_vc tabT_ok mixed Try.func43 rfl (by kernel_rfl) _ _ _ rfl (by kernel_rfl) ?_
  refine ⟨⟨by omega, by omega, by omega, by simp; omega⟩, ?_⟩
  refine LoopVC.mk Nat (fun k => [(0, .slc 4 n (fun i => TClass.cells (f i))), (3, .own 0 0 0 n), (4, .int .i64 k)])
    (fun k => [.row 0 4 n 109 (fun i => TClass.cells (if i < k then f i else TClass.zero))]) (fun k => k ≤ n) (fun k => n - k) 0 (Nat.zero_le _) ?_ (fun k hk => ?_)
  · exact ⟨[0], by simp, Nat.zero_le _, ⟨.slc_eq rfl (fun _ _ => rfl), .own_eq rfl ⟨_, _, _, _, rfl⟩ ⟨_, _, _, _, rfl⟩ rfl rfl, .int_eq rfl, trivial⟩,
      ⟨fun _ => ⟨rfl, rfl⟩, rfl, rfl, rfl, fun i hi => ⟨.str_eq rfl, .str_eq rfl, .nils0 _ _, .nils0 _ _, trivial⟩⟩, trivial⟩
  · refine splitB.mk (fun h => ?_) (fun h => ?_)
    · have h := of_decide_eq_true h
      have hkn : k < n := by omega
      refine ⟨⟨by omega, by omega⟩, ?_⟩
      refine ⟨_, (toTClass (f k) (hf k hkn)).frame0 _ rfl (fun _ => rfl), ?_⟩
      rintro _ _ ⟨rfl, rfl⟩
      refine ⟨rfl, ⟨by omega, by omega⟩, rfl, ?_⟩
      refine ⟨k + 1, by omega, by omega, [0], by simp, Nat.zero_le _, ⟨.slc_eq rfl (fun _ _ => rfl), .own_eq rfl ⟨_, _, _, _, rfl⟩ ⟨_, _, _, _, rfl⟩ rfl rfl, .int_eq (by rw [w64] <;> omega), trivial⟩, ⟨fun _ => ⟨rfl, rfl⟩, rfl, rfl, rfl, ?_⟩, trivial⟩
      refine fzl_set ⟨.str_eq (by simp), .str_eq (by simp), .slc_eq (by simp) (fun _ _ => by simp), .slc_eq (by simp) (fun _ _ => by simp), trivial⟩ (fun i hi hne => ?_)
      have hik : i ≠ k := by simpa using hne
      have e : (i < k + 1) = (i < k) := by simp only [eq_iff_iff]; omega
      simp only [e]
      exact ⟨.str_eq rfl, .str_eq rfl, .slc_eq rfl (fun _ _ => rfl), .slc_eq rfl (fun _ _ => rfl), trivial⟩
    · have h := of_decide_eq_false h
      have hkn : k = n := by omega
      subst hkn
      refine ⟨[], .slc 4 k (fun i => TClass.cells (f i)), [], by simp, Nat.zero_le _, .frz_eq (by simp) rfl rfl rfl (fun i hi => rfl) (fun i hi => ?_), trivial, rfl, rfl⟩
      simp only [Nat.zero_add, if_pos hi]
      exact ⟨.str_eq rfl, .str_eq rfl, .slc_eq rfl (fun _ _ => rfl), .slc_eq rfl (fun _ _ => rfl), trivial⟩

theorem toTProgram (x : TProgram) (sm : x.Small) : ACall Try.prog 20 [.agg x.cells] [] (fun res h => res = .agg x.cells ∧ h = []) := by
  refine ACall.of_vc tabT_ok mixed Try.func20 rfl (by kernel_rfl) _ _ _ rfl (by kernel_rfl) ?_
  refine ⟨rfl, rfl, ?_⟩
  refine ⟨_, (toTFuncS x.funcsN sm.funcsN x.funcs sm.funcs).frame0 _ rfl (fun _ => rfl), ?_⟩
  rintro _ _ ⟨rfl, rfl⟩
  refine ⟨rfl, rfl, ?_⟩
  refine ⟨rfl, rfl, ?_⟩
  refine ⟨_, (toTClassS x.classesN sm.classesN x.classes sm.classes).frame0 _ rfl (fun _ => rfl), ?_⟩
  rintro _ _ ⟨rfl, rfl⟩
  refine ⟨rfl, rfl, ?_⟩
  refine ⟨rfl, rfl, rfl, ?_⟩
  exact ⟨[], .agg x.cells, [], by simp, Nat.zero_le _, .agg_l ⟨.slc_eq rfl (fun _ _ => rfl), .slc_eq rfl (fun _ _ => rfl), trivial⟩, trivial, rfl, rfl⟩

end Go.Am
