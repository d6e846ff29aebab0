/- Sizes of trees. -/
import Derived.Test.YtiealnpaponjcaaQ1
set_option linter.unusedVariables false
set_option linter.unusedSimpArgs false
namespace Go.Am
open Go Go.RowKit Go.Proofs

/-- A tree whose texts and rows are short. -/
def V.Small : V → Prop
  | .none => False
  | .mk _ _ str _ n key val => str.length ≤ 1048576 ∧ n ≤ 1048576 ∧ ∀ i, i < n → (key i).str.length ≤ 1048576 ∧ (val i).Small

def SzR (m : Int) (G : Prop) (res : PV) (h : List AObj) : Prop := ∃ r : Int, res = .int .i64 r ∧ h = [] ∧ r ≤ m ∧ -1 ≤ r ∧ (0 ≤ r → G)

theorem szKey_ok (k : K) (hk : k.str.length ≤ 9223372036854775807) (m : Int) (h0 : 0 ≤ m) (h1 : m ≤ 1048576) : ACall Try.prog 58 [.agg k.cells, .int .i64 m] [] (SzR m (k.str.length ≤ 1048576)) := by
  refine ACall.of_vc tab_ok mixed Try.func58 rfl (by kernel_rfl) _ _ _ rfl (by kernel_rfl) ?_
  refine ⟨rfl, rfl, ?_⟩
  have e1 : IntKind.i64.wrap (m - (k.str.length : Int)) = m - k.str.length := by rw [w64] <;> omega
  refine splitB.mk (fun h => ?_) (fun h => ?_)
  · exact ⟨[], .int .i64 (-1), [], by simp, Nat.zero_le _, .int _ _, trivial, -1, rfl, rfl, by omega, by omega, fun h => by omega⟩
  · have h := of_decide_eq_false h
    rw [e1] at h
    exact ⟨[], .int .i64 (m - k.str.length), [], by simp, Nat.zero_le _, .int_eq e1, trivial, _, rfl, rfl, by omega, by omega, fun _ => by omega⟩

abbrev SzV (v : V) : Prop := ∀ m : Int, 0 ≤ m → m ≤ 1048576 → ACall Try.prog 6 [.agg v.cells, .int .i64 m] [] (SzR m v.Small)

theorem szEntry_ok (k : K) (v : V) (hk : k.str.length ≤ 9223372036854775807) (hv : SzV v) (m : Int) (h0 : 0 ≤ m) (h1 : m ≤ 1048576) :
    ACall Try.prog 46 [.agg (ecells k v), .int .i64 m] [] (SzR m (k.str.length ≤ 1048576 ∧ v.Small)) := by
  refine ACall.of_vc tab_ok mixed Try.func46 rfl (by kernel_rfl) _ _ _ rfl (by kernel_rfl) ?_
  refine ⟨rfl, rfl, ?_⟩
  refine ⟨_, (szKey_ok k hk m h0 h1).frame _ rfl, ?_⟩
  rintro _ _ ⟨_, _, ⟨r, rfl, rfl, r1, r2, r3⟩, rfl, rfl⟩
  refine splitB.mk (fun h => ?_) (fun h => ?_)
  · exact ⟨[], .int .i64 (-1), [], by simp, Nat.zero_le _, .int _ _, trivial, -1, rfl, rfl, by omega, by omega, fun h => by omega⟩
  · have h := of_decide_eq_false h
    refine ⟨rfl, rfl, ?_⟩
    refine ⟨_, (hv r (by omega) (by omega)).frame _ rfl, ?_⟩
    rintro _ _ ⟨_, _, ⟨s, rfl, rfl, s1, s2, s3⟩, rfl, rfl⟩
    refine splitB.mk (fun h => ?_) (fun h => ?_)
    · exact ⟨[], .int .i64 (-1), [], by simp, Nat.zero_le _, .int _ _, trivial, -1, rfl, rfl, by omega, by omega, fun h => by omega⟩
    · have h := of_decide_eq_false h
      exact ⟨[], .int .i64 s, [], by simp, Nat.zero_le _, .int _ _, trivial, s, rfl, rfl, by omega, by omega, fun _ => ⟨r3 (by omega), s3 (by omega)⟩⟩

theorem szEntryS_ok (n : Nat) (hn : n ≤ 9223372036854775807) (key : Nat → K) (val : Nat → V) (hk : ∀ i, i < n → (key i).str.length ≤ 9223372036854775807) (hv : ∀ i, i < n → SzV (val i)) (m : Int) (h0 : 0 ≤ m) (h1 : m ≤ 1048576) :
    ACall Try.prog 23 [.slc 8 n (fun i => ecells (key i) (val i)), .int .i64 m] [] (SzR m (n ≤ 1048576 ∧ ∀ i, i < n → (key i).str.length ≤ 1048576 ∧ (val i).Small)) := by
  refine ACall.of_vc tab_ok mixed Try.func23 rfl (by kernel_rfl) _ _ _ rfl (by kernel_rfl) ?_
  have e1 : IntKind.i64.wrap (m - (n : Int)) = m - n := by rw [w64] <;> omega
  refine splitB.mk (fun h => ?_) (fun h => ?_)
  · exact ⟨[], .int .i64 (-1), [], by simp, Nat.zero_le _, .int _ _, trivial, -1, rfl, rfl, by omega, by omega, fun h => by omega⟩
  · have h := of_decide_eq_false h
    rw [e1] at h
    refine LoopVC.mk (Nat × Int) (fun s => [(0, .slc 8 n (fun i => ecells (key i) (val i))), (1, .int .i64 s.2), (5, .int .i64 s.1)])
      (fun s => []) (fun s => s.1 ≤ n ∧ 0 ≤ s.2 ∧ s.2 ≤ m ∧ ∀ i, i < s.1 → (key i).str.length ≤ 1048576 ∧ (val i).Small) (fun s => n - s.1) (0, m - n) ⟨Nat.zero_le _, by simp only; omega, by simp only; omega, fun i hi => absurd hi (Nat.not_lt_zero _)⟩ ?_ (fun s hs => ?_)
    · exact ⟨[], by simp, Nat.zero_le _, ⟨.slc_eq rfl (fun _ _ => rfl), .int_eq e1, .int_eq rfl, trivial⟩, trivial⟩
    · obtain ⟨k, r⟩ := s
      obtain ⟨hk1, hr0, hr1, hall⟩ := hs
      simp only at hk1 hr0 hr1 hall
      refine splitB.mk (fun h2 => ?_) (fun h2 => ?_)
      · have hkn : k < n := by have := of_decide_eq_true h2; simp only at this; omega
        refine ⟨⟨by simp only; omega, by simp only; omega⟩, ?_⟩
        refine ⟨_, (szEntry_ok (key k) (val k) (hk k hkn) (hv k hkn) r hr0 (by omega)).frame _ rfl, ?_⟩
        rintro _ _ ⟨_, _, ⟨s, rfl, rfl, s1, s2, s3⟩, rfl, rfl⟩
        refine splitB.mk (fun h => ?_) (fun h => ?_)
        · exact ⟨[], .int .i64 (-1), [], by simp, Nat.zero_le _, .int _ _, trivial, -1, rfl, rfl, by omega, by omega, fun h => by omega⟩
        · have h := of_decide_eq_false h
          refine ⟨(k + 1, s), ⟨by simp only; omega, by simp only; omega, by simp only; omega, fun i hi => ?_⟩, by simp only; omega, [], by simp, Nat.zero_le _, ⟨.slc_eq rfl (fun _ _ => rfl), .int_eq rfl, .int_eq (by simp only; rw [w64] <;> omega), trivial⟩, trivial⟩
          rcases Nat.lt_or_ge i k with hik | hik
          · exact hall i hik
          · have : i = k := by simp only at hi; omega
            subst this
            exact s3 (by omega)
      · have hkn : k = n := by have := of_decide_eq_false h2; simp only at this; omega
        subst hkn
        exact ⟨[], .int .i64 r, [], by simp, Nat.zero_le _, .int _ _, trivial, r, rfl, rfl, by omega, by omega, fun _ => ⟨by omega, hall⟩⟩

theorem szValue_ok : ∀ v : V, v.Ok → SzV v
  | .none, ok, _, _, _ => ok.elim
  | .mk kind num str next n key val, ok, m, h0, h1 => by
    have ih : ∀ i, i < n → SzV (val i) := fun i hi => szValue_ok (val i) (ok.2.2 i hi).2
    obtain ⟨ok1, ok2, ok3⟩ := ok
    refine ACall.of_vc tab_ok mixed Try.func6 rfl (by kernel_rfl) _ _ _ rfl (by kernel_rfl) ?_
    refine ⟨rfl, rfl, ?_⟩
    have e1 : IntKind.i64.wrap (m - (str.length : Int)) = m - str.length := by rw [w64] <;> omega
    refine splitB.mk (fun h => ?_) (fun h => ?_)
    · exact ⟨[], .int .i64 (-1), [], by simp, Nat.zero_le _, .int _ _, trivial, -1, rfl, rfl, by omega, by omega, fun h => by omega⟩
    · have h : ¬ IntKind.i64.wrap (m - (str.length : Int)) < 0 := of_decide_eq_false h
      refine ⟨rfl, rfl, ?_⟩
      refine ⟨_, (szEntryS_ok n ok2 key val (fun i hi => (ok3 i hi).1) ih (IntKind.i64.wrap (m - (str.length : Int))) (by omega) (by omega)).frame _ rfl, ?_⟩
      rintro _ _ ⟨_, _, ⟨s, rfl, rfl, s1, s2, s3⟩, rfl, rfl⟩
      refine splitB.mk (fun h => ?_) (fun h => ?_)
      · exact ⟨[], .int .i64 (-1), [], by simp, Nat.zero_le _, .int _ _, trivial, -1, rfl, rfl, by omega, by omega, fun h => by omega⟩
      · have h := of_decide_eq_false h
        exact ⟨[], .int .i64 s, [], by simp, Nat.zero_le _, .int _ _, trivial, s, rfl, rfl, by omega, by omega, fun hs => ⟨by omega, s3 hs⟩⟩

end Go.Am
