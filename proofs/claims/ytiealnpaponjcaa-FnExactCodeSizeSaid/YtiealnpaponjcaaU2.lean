/- Sizes of trees. -/
import Derived.Test.YtiealnpaponjcaaU1
set_option linter.unusedVariables false
set_option linter.unusedSimpArgs false
namespace Go.Am
open Go Go.RowKit Go.Proofs

theorem szTParam (x : TParam) (ok : x.Ok) (m : Int) (h0 : 0 ≤ m) (h1 : m ≤ 1048576) : ACall Try.prog 76 [.agg x.cells, .int .i64 m] [] (SzR m x.Small) := by
  refine ACall.of_vc tabT_ok mixed Try.func76 rfl (by kernel_rfl) _ _ _ rfl (by kernel_rfl) ?_
  have l1 := ok.name
  refine ⟨rfl, rfl, ?_⟩
  have e1 : IntKind.i64.wrap (m - (x.name.length : Int)) = m - x.name.length := by rw [w64] <;> omega
  refine splitB.mk (fun h => ?_) (fun h => ?_)
  · exact ⟨[], .int .i64 (-1), [], by simp, Nat.zero_le _, .int _ _, trivial, -1, rfl, rfl, by omega, by omega, fun h => by omega⟩
  · have h := of_decide_eq_false h
    rw [e1] at h
    exact ⟨[], .int .i64 (m - x.name.length), [], by simp, Nat.zero_le _, .int_eq e1, trivial, _, rfl, rfl, by omega, by omega, fun _ => ⟨by omega⟩⟩

theorem szTIns (x : TIns) (ok : x.Ok) (m : Int) (h0 : 0 ≤ m) (h1 : m ≤ 1048576) : ACall Try.prog 12 [.agg x.cells, .int .i64 m] [] (SzR m x.Small) := by
  refine ACall.of_vc tabT_ok mixed Try.func12 rfl (by kernel_rfl) _ _ _ rfl (by kernel_rfl) ?_
  have l1 := ok.s
  refine ⟨rfl, rfl, ?_⟩
  have e1 : IntKind.i64.wrap (m - (x.s.length : Int)) = m - x.s.length := by rw [w64] <;> omega
  refine splitB.mk (fun h => ?_) (fun h => ?_)
  · exact ⟨[], .int .i64 (-1), [], by simp, Nat.zero_le _, .int _ _, trivial, -1, rfl, rfl, by omega, by omega, fun h => by omega⟩
  · have h := of_decide_eq_false h
    rw [e1] at h
    have l2 := ok.t
    refine ⟨rfl, rfl, ?_⟩
    have e2 : IntKind.i64.wrap (IntKind.i64.wrap (m - (x.s.length : Int)) - (x.t.length : Int)) = m - x.s.length - x.t.length := by rw [e1, w64] <;> omega
    refine splitB.mk (fun h => ?_) (fun h => ?_)
    · exact ⟨[], .int .i64 (-1), [], by simp, Nat.zero_le _, .int _ _, trivial, -1, rfl, rfl, by omega, by omega, fun h => by omega⟩
    · have h := of_decide_eq_false h
      rw [e2] at h
      exact ⟨[], .int .i64 (m - x.s.length - x.t.length), [], by simp, Nat.zero_le _, .int_eq e2, trivial, _, rfl, rfl, by omega, by omega, fun _ => ⟨by omega, by omega⟩⟩

theorem szTParamS (n : Nat) (hn : n ≤ 9223372036854775807) (f : Nat → TParam) (hf : ∀ i, i < n → (f i).Ok) (m : Int) (h0 : 0 ≤ m) (h1 : m ≤ 1048576) :
    ACall Try.prog 61 [.slc 2 n (fun i => TParam.cells (f i)), .int .i64 m] [] (SzR m (n ≤ 1048576 ∧ ∀ i, i < n → (f i).Small)) := by
  refine ACall.of_vc tabT_ok mixed Try.func61 rfl (by kernel_rfl) _ _ _ rfl (by kernel_rfl) ?_
  have e1 : IntKind.i64.wrap (m - (n : Int)) = m - n := by rw [w64] <;> omega
  refine splitB.mk (fun h => ?_) (fun h => ?_)
  · exact ⟨[], .int .i64 (-1), [], by simp, Nat.zero_le _, .int _ _, trivial, -1, rfl, rfl, by omega, by omega, fun h => by omega⟩
  · have h := of_decide_eq_false h
    rw [e1] at h
    refine LoopVC.mk (Nat × Int) (fun s => [(0, .slc 2 n (fun i => TParam.cells (f i))), (1, .int .i64 s.2), (5, .int .i64 s.1)])
      (fun s => []) (fun s => s.1 ≤ n ∧ 0 ≤ s.2 ∧ s.2 ≤ m ∧ ∀ i, i < s.1 → (f i).Small) (fun s => n - s.1) (0, m - n) ⟨Nat.zero_le _, by simp only; omega, by simp only; omega, fun i hi => absurd hi (Nat.not_lt_zero _)⟩ ?_ (fun s hs => ?_)
    · exact ⟨[], by simp, Nat.zero_le _, ⟨.slc_eq rfl (fun _ _ => rfl), .int_eq e1, .int_eq rfl, trivial⟩, trivial⟩
    · obtain ⟨k, r⟩ := s
      obtain ⟨hk1, hr0, hr1, hall⟩ := hs
      simp only at hk1 hr0 hr1 hall
      refine splitB.mk (fun h2 => ?_) (fun h2 => ?_)
      · have hkn : k < n := by have := of_decide_eq_true h2; simp only at this; omega
        refine ⟨⟨by simp only; omega, by simp only; omega⟩, ?_⟩
        refine ⟨_, szF (szTParam (f k) (hf k hkn) r hr0 (by omega)) _ rfl, ?_⟩
        rintro _ _ ⟨s, rfl, rfl, s1, s2, s3⟩
        refine splitB.mk (fun h => ?_) (fun h => ?_)
        · exact ⟨[], .int .i64 (-1), [], by simp, Nat.zero_le _, .int _ _, trivial, -1, rfl, rfl, by omega, by omega, fun h => by omega⟩
        · have h := of_decide_eq_false h
          refine ⟨(k + 1, s), ⟨by simp only; omega, by simp only; omega, by simp only; omega, fun i hi => ?_⟩, by simp only; omega, [], by simp, Nat.zero_le _, ⟨.slc_eq rfl (fun _ _ => rfl), .int_eq rfl, .int_eq (by simp only; rw [w64] <;> omega), trivial⟩, trivial⟩
          rcases Nat.lt_or_ge i k with hik | hik
          · exact hall i hik
          · have : i = k := by simp only at hi; omega
            subst this
            exact s3 (by omega)
      · have hkn : k = n := by have := of_decide_eq_false h2; simp only at this; omega
        subst hkn
        exact ⟨[], .int .i64 r, [], by simp, Nat.zero_le _, .int _ _, trivial, r, rfl, rfl, by omega, by omega, fun _ => ⟨by omega, hall⟩⟩

theorem szTStringS (n : Nat) (hn : n ≤ 9223372036854775807) (f : Nat → List UInt8) (hf : ∀ i, i < n → (f i).length ≤ 9223372036854775807) (m : Int) (h0 : 0 ≤ m) (h1 : m ≤ 1048576) :
    ACall Try.prog 62 [.slc 1 n (fun i => [.str (f i)]), .int .i64 m] [] (SzR m (n ≤ 1048576 ∧ ∀ i, i < n → (f i).length ≤ 1048576)) := by
  refine ACall.of_vc tabT_ok mixed Try.func62 rfl (by kernel_rfl) _ _ _ rfl (by kernel_rfl) ?_
  have e1 : IntKind.i64.wrap (m - (n : Int)) = m - n := by rw [w64] <;> omega
  refine splitB.mk (fun h => ?_) (fun h => ?_)
  · exact ⟨[], .int .i64 (-1), [], by simp, Nat.zero_le _, .int _ _, trivial, -1, rfl, rfl, by omega, by omega, fun h => by omega⟩
  · have h := of_decide_eq_false h
    rw [e1] at h
    refine LoopVC.mk (Nat × Int) (fun s => [(0, .slc 1 n (fun i => [.str (f i)])), (1, .int .i64 s.2), (5, .int .i64 s.1)])
      (fun s => []) (fun s => s.1 ≤ n ∧ 0 ≤ s.2 ∧ s.2 ≤ m ∧ ∀ i, i < s.1 → (f i).length ≤ 1048576) (fun s => n - s.1) (0, m - n) ⟨Nat.zero_le _, by simp only; omega, by simp only; omega, fun i hi => absurd hi (Nat.not_lt_zero _)⟩ ?_ (fun s hs => ?_)
    · exact ⟨[], by simp, Nat.zero_le _, ⟨.slc_eq rfl (fun _ _ => rfl), .int_eq e1, .int_eq rfl, trivial⟩, trivial⟩
    · obtain ⟨k, r⟩ := s
      obtain ⟨hk1, hr0, hr1, hall⟩ := hs
      simp only at hk1 hr0 hr1 hall
      refine splitB.mk (fun h2 => ?_) (fun h2 => ?_)
      · have hkn : k < n := by have := of_decide_eq_true h2; simp only at this; omega
        have hlk := hf k hkn
        have e2 : IntKind.i64.wrap (r - ((f k).length : Int)) = r - (f k).length := by rw [w64] <;> omega
        refine ⟨⟨by simp only; omega, by simp only; omega⟩, ?_⟩
        refine splitB.mk (fun h => ?_) (fun h => ?_)
        · exact ⟨[], .int .i64 (-1), [], by simp, Nat.zero_le _, .int _ _, trivial, -1, rfl, rfl, by omega, by omega, fun h => by omega⟩
        · have h : ¬ (IntKind.i64.wrap (r - ((f k).length : Int)) < 0) := of_decide_eq_false h
          rw [e2] at h
          refine ⟨(k + 1, r - (f k).length), ⟨by simp only; omega, by simp only; omega, by simp only; omega, fun i hi => ?_⟩, by simp only; omega, [], by simp, Nat.zero_le _, ⟨.slc_eq rfl (fun _ _ => rfl), .int_eq e2, .int_eq (by simp only; rw [w64] <;> omega), trivial⟩, trivial⟩
          rcases Nat.lt_or_ge i k with hik | hik
          · exact hall i hik
          · have : i = k := by simp only at hi; omega
            subst this
            exact by omega
      · have hkn : k = n := by have := of_decide_eq_false h2; simp only at this; omega
        subst hkn
        exact ⟨[], .int .i64 r, [], by simp, Nat.zero_le _, .int _ _, trivial, r, rfl, rfl, by omega, by omega, fun _ => ⟨by omega, hall⟩⟩

theorem szTInsS (n : Nat) (hn : n ≤ 9223372036854775807) (f : Nat → TIns) (hf : ∀ i, i < n → (f i).Ok) (m : Int) (h0 : 0 ≤ m) (h1 : m ≤ 1048576) :
    ACall Try.prog 63 [.slc 5 n (fun i => TIns.cells (f i)), .int .i64 m] [] (SzR m (n ≤ 1048576 ∧ ∀ i, i < n → (f i).Small)) := by
  refine ACall.of_vc tabT_ok mixed Try.func63 rfl (by kernel_rfl) _ _ _ rfl (by kernel_rfl) ?_
  have e1 : IntKind.i64.wrap (m - (n : Int)) = m - n := by rw [w64] <;> omega
  refine splitB.mk (fun h => ?_) (fun h => ?_)
  · exact ⟨[], .int .i64 (-1), [], by simp, Nat.zero_le _, .int _ _, trivial, -1, rfl, rfl, by omega, by omega, fun h => by omega⟩
  · have h := of_decide_eq_false h
    rw [e1] at h
    refine LoopVC.mk (Nat × Int) (fun s => [(0, .slc 5 n (fun i => TIns.cells (f i))), (1, .int .i64 s.2), (5, .int .i64 s.1)])
      (fun s => []) (fun s => s.1 ≤ n ∧ 0 ≤ s.2 ∧ s.2 ≤ m ∧ ∀ i, i < s.1 → (f i).Small) (fun s => n - s.1) (0, m - n) ⟨Nat.zero_le _, by simp only; omega, by simp only; omega, fun i hi => absurd hi (Nat.not_lt_zero _)⟩ ?_ (fun s hs => ?_)
    · exact ⟨[], by simp, Nat.zero_le _, ⟨.slc_eq rfl (fun _ _ => rfl), .int_eq e1, .int_eq rfl, trivial⟩, trivial⟩
    · obtain ⟨k, r⟩ := s
      obtain ⟨hk1, hr0, hr1, hall⟩ := hs
      simp only at hk1 hr0 hr1 hall
      refine splitB.mk (fun h2 => ?_) (fun h2 => ?_)
      · have hkn : k < n := by have := of_decide_eq_true h2; simp only at this; omega
        refine ⟨⟨by simp only; omega, by simp only; omega⟩, ?_⟩
        refine ⟨_, szF (szTIns (f k) (hf k hkn) r hr0 (by omega)) _ rfl, ?_⟩
        rintro _ _ ⟨s, rfl, rfl, s1, s2, s3⟩
        refine splitB.mk (fun h => ?_) (fun h => ?_)
        · exact ⟨[], .int .i64 (-1), [], by simp, Nat.zero_le _, .int _ _, trivial, -1, rfl, rfl, by omega, by omega, fun h => by omega⟩
        · have h := of_decide_eq_false h
          refine ⟨(k + 1, s), ⟨by simp only; omega, by simp only; omega, by simp only; omega, fun i hi => ?_⟩, by simp only; omega, [], by simp, Nat.zero_le _, ⟨.slc_eq rfl (fun _ _ => rfl), .int_eq rfl, .int_eq (by simp only; rw [w64] <;> omega), trivial⟩, trivial⟩
          rcases Nat.lt_or_ge i k with hik | hik
          · exact hall i hik
          · have : i = k := by simp only at hi; omega
            subst this
            exact s3 (by omega)
      · have hkn : k = n := by have := of_decide_eq_false h2; simp only at this; omega
        subst hkn
        exact ⟨[], .int .i64 r, [], by simp, Nat.zero_le _, .int _ _, trivial, r, rfl, rfl, by omega, by omega, fun _ => ⟨by omega, hall⟩⟩

theorem szTFunc (x : TFunc) (ok : x.Ok) (m : Int) (h0 : 0 ≤ m) (h1 : m ≤ 1048576) : ACall Try.prog 52 [.agg x.cells, .int .i64 m] [] (SzR m x.Small) := by
  refine ACall.of_vc tabT_ok mixed Try.func52 rfl (by kernel_rfl) _ _ _ rfl (by kernel_rfl) ?_
  have l1 := ok.name
  refine ⟨rfl, rfl, ?_⟩
  have e1 : IntKind.i64.wrap (m - (x.name.length : Int)) = m - x.name.length := by rw [w64] <;> omega
  refine splitB.mk (fun h => ?_) (fun h => ?_)
  · exact ⟨[], .int .i64 (-1), [], by simp, Nat.zero_le _, .int _ _, trivial, -1, rfl, rfl, by omega, by omega, fun h => by omega⟩
  · have h := of_decide_eq_false h
    rw [e1] at h
    refine ⟨rfl, rfl, ?_⟩
    refine ⟨_, szF (szTParamS x.paramsN ok.paramsN x.params ok.params (IntKind.i64.wrap (m - (x.name.length : Int))) (by omega) (by omega)) _ rfl, ?_⟩
    rintro _ _ ⟨r2, rfl, rfl, a2, b2, c2⟩
    refine splitB.mk (fun h => ?_) (fun h => ?_)
    · exact ⟨[], .int .i64 (-1), [], by simp, Nat.zero_le _, .int _ _, trivial, -1, rfl, rfl, by omega, by omega, fun h => by omega⟩
    · have h := of_decide_eq_false h
      refine ⟨rfl, rfl, ?_⟩
      refine ⟨_, szF (szTParamS x.usesN ok.usesN x.uses ok.uses (r2) (by omega) (by omega)) _ rfl, ?_⟩
      rintro _ _ ⟨r3, rfl, rfl, a3, b3, c3⟩
      refine splitB.mk (fun h => ?_) (fun h => ?_)
      · exact ⟨[], .int .i64 (-1), [], by simp, Nat.zero_le _, .int _ _, trivial, -1, rfl, rfl, by omega, by omega, fun h => by omega⟩
      · have h := of_decide_eq_false h
        refine ⟨rfl, rfl, ?_⟩
        refine ⟨_, szF (szTStringS x.slotsN ok.slotsN x.slots ok.slots (r3) (by omega) (by omega)) _ rfl, ?_⟩
        rintro _ _ ⟨r4, rfl, rfl, a4, b4, c4⟩
        refine splitB.mk (fun h => ?_) (fun h => ?_)
        · exact ⟨[], .int .i64 (-1), [], by simp, Nat.zero_le _, .int _ _, trivial, -1, rfl, rfl, by omega, by omega, fun h => by omega⟩
        · have h := of_decide_eq_false h
          refine ⟨rfl, rfl, ?_⟩
          refine ⟨_, szF (szTInsS x.codeN ok.codeN x.code ok.code (r4) (by omega) (by omega)) _ rfl, ?_⟩
          rintro _ _ ⟨r5, rfl, rfl, a5, b5, c5⟩
          refine splitB.mk (fun h => ?_) (fun h => ?_)
          · exact ⟨[], .int .i64 (-1), [], by simp, Nat.zero_le _, .int _ _, trivial, -1, rfl, rfl, by omega, by omega, fun h => by omega⟩
          · have h := of_decide_eq_false h
            exact ⟨[], .int .i64 (r5), [], by simp, Nat.zero_le _, .int _ _, trivial, _, rfl, rfl, by omega, by omega, fun _ => ⟨by omega, (c2 (by omega)).1, (c2 (by omega)).2, (c3 (by omega)).1, (c3 (by omega)).2, (c4 (by omega)).1, (c4 (by omega)).2, (c5 (by omega)).1, (c5 (by omega)).2⟩⟩

theorem szTField (x : TField) (ok : x.Ok) (m : Int) (h0 : 0 ≤ m) (h1 : m ≤ 1048576) : ACall Try.prog 77 [.agg x.cells, .int .i64 m] [] (SzR m x.Small) := by
  refine ACall.of_vc tabT_ok mixed Try.func77 rfl (by kernel_rfl) _ _ _ rfl (by kernel_rfl) ?_
  have l1 := ok.name
  refine ⟨rfl, rfl, ?_⟩
  have e1 : IntKind.i64.wrap (m - (x.name.length : Int)) = m - x.name.length := by rw [w64] <;> omega
  refine splitB.mk (fun h => ?_) (fun h => ?_)
  · exact ⟨[], .int .i64 (-1), [], by simp, Nat.zero_le _, .int _ _, trivial, -1, rfl, rfl, by omega, by omega, fun h => by omega⟩
  · have h := of_decide_eq_false h
    rw [e1] at h
    have l2 := ok.owner
    refine ⟨rfl, rfl, ?_⟩
    have e2 : IntKind.i64.wrap (IntKind.i64.wrap (m - (x.name.length : Int)) - (x.owner.length : Int)) = m - x.name.length - x.owner.length := by rw [e1, w64] <;> omega
    refine splitB.mk (fun h => ?_) (fun h => ?_)
    · exact ⟨[], .int .i64 (-1), [], by simp, Nat.zero_le _, .int _ _, trivial, -1, rfl, rfl, by omega, by omega, fun h => by omega⟩
    · have h := of_decide_eq_false h
      rw [e2] at h
      refine ⟨rfl, rfl, ?_⟩
      refine ⟨_, szF (szValue_ok x.init ok.init (IntKind.i64.wrap (IntKind.i64.wrap (m - (x.name.length : Int)) - (x.owner.length : Int))) (by omega) (by omega)) _ rfl, ?_⟩
      rintro _ _ ⟨r3, rfl, rfl, a3, b3, c3⟩
      refine splitB.mk (fun h => ?_) (fun h => ?_)
      · exact ⟨[], .int .i64 (-1), [], by simp, Nat.zero_le _, .int _ _, trivial, -1, rfl, rfl, by omega, by omega, fun h => by omega⟩
      · have h := of_decide_eq_false h
        exact ⟨[], .int .i64 (r3), [], by simp, Nat.zero_le _, .int _ _, trivial, _, rfl, rfl, by omega, by omega, fun _ => ⟨by omega, by omega, c3 (by omega)⟩⟩

theorem szTMethod (x : TMethod) (ok : x.Ok) (m : Int) (h0 : 0 ≤ m) (h1 : m ≤ 1048576) : ACall Try.prog 78 [.agg x.cells, .int .i64 m] [] (SzR m x.Small) := by
  refine ACall.of_vc tabT_ok mixed Try.func78 rfl (by kernel_rfl) _ _ _ rfl (by kernel_rfl) ?_
  have l1 := ok.name
  refine ⟨rfl, rfl, ?_⟩
  have e1 : IntKind.i64.wrap (m - (x.name.length : Int)) = m - x.name.length := by rw [w64] <;> omega
  refine splitB.mk (fun h => ?_) (fun h => ?_)
  · exact ⟨[], .int .i64 (-1), [], by simp, Nat.zero_le _, .int _ _, trivial, -1, rfl, rfl, by omega, by omega, fun h => by omega⟩
  · have h := of_decide_eq_false h
    rw [e1] at h
    have l2 := ok.owner
    refine ⟨rfl, rfl, ?_⟩
    have e2 : IntKind.i64.wrap (IntKind.i64.wrap (m - (x.name.length : Int)) - (x.owner.length : Int)) = m - x.name.length - x.owner.length := by rw [e1, w64] <;> omega
    refine splitB.mk (fun h => ?_) (fun h => ?_)
    · exact ⟨[], .int .i64 (-1), [], by simp, Nat.zero_le _, .int _ _, trivial, -1, rfl, rfl, by omega, by omega, fun h => by omega⟩
    · have h := of_decide_eq_false h
      rw [e2] at h
      have l3 := ok.orig
      refine ⟨rfl, rfl, ?_⟩
      have e3 : IntKind.i64.wrap (IntKind.i64.wrap (IntKind.i64.wrap (m - (x.name.length : Int)) - (x.owner.length : Int)) - (x.orig.length : Int)) = m - x.name.length - x.owner.length - x.orig.length := by rw [e2, w64] <;> omega
      refine splitB.mk (fun h => ?_) (fun h => ?_)
      · exact ⟨[], .int .i64 (-1), [], by simp, Nat.zero_le _, .int _ _, trivial, -1, rfl, rfl, by omega, by omega, fun h => by omega⟩
      · have h := of_decide_eq_false h
        rw [e3] at h
        exact ⟨[], .int .i64 (m - x.name.length - x.owner.length - x.orig.length), [], by simp, Nat.zero_le _, .int_eq e3, trivial, _, rfl, rfl, by omega, by omega, fun _ => ⟨by omega, by omega, by omega⟩⟩

theorem szTFieldS (n : Nat) (hn : n ≤ 9223372036854775807) (f : Nat → TField) (hf : ∀ i, i < n → (f i).Ok) (m : Int) (h0 : 0 ≤ m) (h1 : m ≤ 1048576) :
    ACall Try.prog 64 [.slc 8 n (fun i => TField.cells (f i)), .int .i64 m] [] (SzR m (n ≤ 1048576 ∧ ∀ i, i < n → (f i).Small)) := by
  refine ACall.of_vc tabT_ok mixed Try.func64 rfl (by kernel_rfl) _ _ _ rfl (by kernel_rfl) ?_
  have e1 : IntKind.i64.wrap (m - (n : Int)) = m - n := by rw [w64] <;> omega
  refine splitB.mk (fun h => ?_) (fun h => ?_)
  · exact ⟨[], .int .i64 (-1), [], by simp, Nat.zero_le _, .int _ _, trivial, -1, rfl, rfl, by omega, by omega, fun h => by omega⟩
  · have h := of_decide_eq_false h
    rw [e1] at h
    refine LoopVC.mk (Nat × Int) (fun s => [(0, .slc 8 n (fun i => TField.cells (f i))), (1, .int .i64 s.2), (5, .int .i64 s.1)])
      (fun s => []) (fun s => s.1 ≤ n ∧ 0 ≤ s.2 ∧ s.2 ≤ m ∧ ∀ i, i < s.1 → (f i).Small) (fun s => n - s.1) (0, m - n) ⟨Nat.zero_le _, by simp only; omega, by simp only; omega, fun i hi => absurd hi (Nat.not_lt_zero _)⟩ ?_ (fun s hs => ?_)
    · exact ⟨[], by simp, Nat.zero_le _, ⟨.slc_eq rfl (fun _ _ => rfl), .int_eq e1, .int_eq rfl, trivial⟩, trivial⟩
    · obtain ⟨k, r⟩ := s
      obtain ⟨hk1, hr0, hr1, hall⟩ := hs
      simp only at hk1 hr0 hr1 hall
      refine splitB.mk (fun h2 => ?_) (fun h2 => ?_)
      · have hkn : k < n := by have := of_decide_eq_true h2; simp only at this; omega
        refine ⟨⟨by simp only; omega, by simp only; omega⟩, ?_⟩
        refine ⟨_, szF (szTField (f k) (hf k hkn) r hr0 (by omega)) _ rfl, ?_⟩
        rintro _ _ ⟨s, rfl, rfl, s1, s2, s3⟩
        refine splitB.mk (fun h => ?_) (fun h => ?_)
        · exact ⟨[], .int .i64 (-1), [], by simp, Nat.zero_le _, .int _ _, trivial, -1, rfl, rfl, by omega, by omega, fun h => by omega⟩
        · have h := of_decide_eq_false h
          refine ⟨(k + 1, s), ⟨by simp only; omega, by simp only; omega, by simp only; omega, fun i hi => ?_⟩, by simp only; omega, [], by simp, Nat.zero_le _, ⟨.slc_eq rfl (fun _ _ => rfl), .int_eq rfl, .int_eq (by simp only; rw [w64] <;> omega), trivial⟩, trivial⟩
          rcases Nat.lt_or_ge i k with hik | hik
          · exact hall i hik
          · have : i = k := by simp only at hi; omega
            subst this
            exact s3 (by omega)
      · have hkn : k = n := by have := of_decide_eq_false h2; simp only at this; omega
        subst hkn
        exact ⟨[], .int .i64 r, [], by simp, Nat.zero_le _, .int _ _, trivial, r, rfl, rfl, by omega, by omega, fun _ => ⟨by omega, hall⟩⟩

theorem szTMethodS (n : Nat) (hn : n ≤ 9223372036854775807) (f : Nat → TMethod) (hf : ∀ i, i < n → (f i).Ok) (m : Int) (h0 : 0 ≤ m) (h1 : m ≤ 1048576) :
    ACall Try.prog 65 [.slc 5 n (fun i => TMethod.cells (f i)), .int .i64 m] [] (SzR m (n ≤ 1048576 ∧ ∀ i, i < n → (f i).Small)) := by
  refine ACall.of_vc tabT_ok mixed Try.func65 rfl (by kernel_rfl) _ _ _ rfl (by kernel_rfl) ?_
  have e1 : IntKind.i64.wrap (m - (n : Int)) = m - n := by rw [w64] <;> omega
  refine splitB.mk (fun h => ?_) (fun h => ?_)
  · exact ⟨[], .int .i64 (-1), [], by simp, Nat.zero_le _, .int _ _, trivial, -1, rfl, rfl, by omega, by omega, fun h => by omega⟩
  · have h := of_decide_eq_false h
    rw [e1] at h
    refine LoopVC.mk (Nat × Int) (fun s => [(0, .slc 5 n (fun i => TMethod.cells (f i))), (1, .int .i64 s.2), (5, .int .i64 s.1)])
      (fun s => []) (fun s => s.1 ≤ n ∧ 0 ≤ s.2 ∧ s.2 ≤ m ∧ ∀ i, i < s.1 → (f i).Small) (fun s => n - s.1) (0, m - n) ⟨Nat.zero_le _, by simp only; omega, by simp only; omega, fun i hi => absurd hi (Nat.not_lt_zero _)⟩ ?_ (fun s hs => ?_)
    · exact ⟨[], by simp, Nat.zero_le _, ⟨.slc_eq rfl (fun _ _ => rfl), .int_eq e1, .int_eq rfl, trivial⟩, trivial⟩
    · obtain ⟨k, r⟩ := s
      obtain ⟨hk1, hr0, hr1, hall⟩ := hs
      simp only at hk1 hr0 hr1 hall
      refine splitB.mk (fun h2 => ?_) (fun h2 => ?_)
      · have hkn : k < n := by have := of_decide_eq_true h2; simp only at this; omega
        refine ⟨⟨by simp only; omega, by simp only; omega⟩, ?_⟩
        refine ⟨_, szF (szTMethod (f k) (hf k hkn) r hr0 (by omega)) _ rfl, ?_⟩
        rintro _ _ ⟨s, rfl, rfl, s1, s2, s3⟩
        refine splitB.mk (fun h => ?_) (fun h => ?_)
        · exact ⟨[], .int .i64 (-1), [], by simp, Nat.zero_le _, .int _ _, trivial, -1, rfl, rfl, by omega, by omega, fun h => by omega⟩
        · have h := of_decide_eq_false h
          refine ⟨(k + 1, s), ⟨by simp only; omega, by simp only; omega, by simp only; omega, fun i hi => ?_⟩, by simp only; omega, [], by simp, Nat.zero_le _, ⟨.slc_eq rfl (fun _ _ => rfl), .int_eq rfl, .int_eq (by simp only; rw [w64] <;> omega), trivial⟩, trivial⟩
          rcases Nat.lt_or_ge i k with hik | hik
          · exact hall i hik
          · have : i = k := by simp only at hi; omega
            subst this
            exact s3 (by omega)
      · have hkn : k = n := by have := of_decide_eq_false h2; simp only at this; omega
        subst hkn
        exact ⟨[], .int .i64 r, [], by simp, Nat.zero_le _, .int _ _, trivial, r, rfl, rfl, by omega, by omega, fun _ => ⟨by omega, hall⟩⟩

theorem szTClass (x : TClass) (ok : x.Ok) (m : Int) (h0 : 0 ≤ m) (h1 : m ≤ 1048576) : ACall Try.prog 53 [.agg x.cells, .int .i64 m] [] (SzR m x.Small) := by
  refine ACall.of_vc tabT_ok mixed Try.func53 rfl (by kernel_rfl) _ _ _ rfl (by kernel_rfl) ?_
  have l1 := ok.name
  refine ⟨rfl, rfl, ?_⟩
  have e1 : IntKind.i64.wrap (m - (x.name.length : Int)) = m - x.name.length := by rw [w64] <;> omega
  refine splitB.mk (fun h => ?_) (fun h => ?_)
  · exact ⟨[], .int .i64 (-1), [], by simp, Nat.zero_le _, .int _ _, trivial, -1, rfl, rfl, by omega, by omega, fun h => by omega⟩
  · have h := of_decide_eq_false h
    rw [e1] at h
    have l2 := ok.parent
    refine ⟨rfl, rfl, ?_⟩
    have e2 : IntKind.i64.wrap (IntKind.i64.wrap (m - (x.name.length : Int)) - (x.parent.length : Int)) = m - x.name.length - x.parent.length := by rw [e1, w64] <;> omega
    refine splitB.mk (fun h => ?_) (fun h => ?_)
    · exact ⟨[], .int .i64 (-1), [], by simp, Nat.zero_le _, .int _ _, trivial, -1, rfl, rfl, by omega, by omega, fun h => by omega⟩
    · have h := of_decide_eq_false h
      rw [e2] at h
      refine ⟨rfl, rfl, ?_⟩
      refine ⟨_, szF (szTFieldS x.fieldsN ok.fieldsN x.fields ok.fields (IntKind.i64.wrap (IntKind.i64.wrap (m - (x.name.length : Int)) - (x.parent.length : Int))) (by omega) (by omega)) _ rfl, ?_⟩
      rintro _ _ ⟨r3, rfl, rfl, a3, b3, c3⟩
      refine splitB.mk (fun h => ?_) (fun h => ?_)
      · exact ⟨[], .int .i64 (-1), [], by simp, Nat.zero_le _, .int _ _, trivial, -1, rfl, rfl, by omega, by omega, fun h => by omega⟩
      · have h := of_decide_eq_false h
        refine ⟨rfl, rfl, ?_⟩
        refine ⟨_, szF (szTMethodS x.methodsN ok.methodsN x.methods ok.methods (r3) (by omega) (by omega)) _ rfl, ?_⟩
        rintro _ _ ⟨r4, rfl, rfl, a4, b4, c4⟩
        refine splitB.mk (fun h => ?_) (fun h => ?_)
        · exact ⟨[], .int .i64 (-1), [], by simp, Nat.zero_le _, .int _ _, trivial, -1, rfl, rfl, by omega, by omega, fun h => by omega⟩
        · have h := of_decide_eq_false h
          exact ⟨[], .int .i64 (r4), [], by simp, Nat.zero_le _, .int _ _, trivial, _, rfl, rfl, by omega, by omega, fun _ => ⟨by omega, by omega, (c3 (by omega)).1, (c3 (by omega)).2, (c4 (by omega)).1, (c4 (by omega)).2⟩⟩

theorem szTFuncS (n : Nat) (hn : n ≤ 9223372036854775807) (f : Nat → TFunc) (hf : ∀ i, i < n → (f i).Ok) (m : Int) (h0 : 0 ≤ m) (h1 : m ≤ 1048576) :
    ACall Try.prog 40 [.slc 6 n (fun i => TFunc.cells (f i)), .int .i64 m] [] (SzR m (n ≤ 1048576 ∧ ∀ i, i < n → (f i).Small)) := by
  refine ACall.of_vc tabT_ok mixed Try.func40 rfl (by kernel_rfl) _ _ _ rfl (by kernel_rfl) ?_
  have e1 : IntKind.i64.wrap (m - (n : Int)) = m - n := by rw [w64] <;> omega
  refine splitB.mk (fun h => ?_) (fun h => ?_)
  · exact ⟨[], .int .i64 (-1), [], by simp, Nat.zero_le _, .int _ _, trivial, -1, rfl, rfl, by omega, by omega, fun h => by omega⟩
  · have h := of_decide_eq_false h
    rw [e1] at h
    refine LoopVC.mk (Nat × Int) (fun s => [(0, .slc 6 n (fun i => TFunc.cells (f i))), (1, .int .i64 s.2), (5, .int .i64 s.1)])
      (fun s => []) (fun s => s.1 ≤ n ∧ 0 ≤ s.2 ∧ s.2 ≤ m ∧ ∀ i, i < s.1 → (f i).Small) (fun s => n - s.1) (0, m - n) ⟨Nat.zero_le _, by simp only; omega, by simp only; omega, fun i hi => absurd hi (Nat.not_lt_zero _)⟩ ?_ (fun s hs => ?_)
    · exact ⟨[], by simp, Nat.zero_le _, ⟨.slc_eq rfl (fun _ _ => rfl), .int_eq e1, .int_eq rfl, trivial⟩, trivial⟩
    · obtain ⟨k, r⟩ := s
      obtain ⟨hk1, hr0, hr1, hall⟩ := hs
      simp only at hk1 hr0 hr1 hall
      refine splitB.mk (fun h2 => ?_) (fun h2 => ?_)
      · have hkn : k < n := by have := of_decide_eq_true h2; simp only at this; omega
        refine ⟨⟨by simp only; omega, by simp only; omega⟩, ?_⟩
        refine ⟨_, szF (szTFunc (f k) (hf k hkn) r hr0 (by omega)) _ rfl, ?_⟩
        rintro _ _ ⟨s, rfl, rfl, s1, s2, s3⟩
        refine splitB.mk (fun h => ?_) (fun h => ?_)
        · exact ⟨[], .int .i64 (-1), [], by simp, Nat.zero_le _, .int _ _, trivial, -1, rfl, rfl, by omega, by omega, fun h => by omega⟩
        · have h := of_decide_eq_false h
          refine ⟨(k + 1, s), ⟨by simp only; omega, by simp only; omega, by simp only; omega, fun i hi => ?_⟩, by simp only; omega, [], by simp, Nat.zero_le _, ⟨.slc_eq rfl (fun _ _ => rfl), .int_eq rfl, .int_eq (by simp only; rw [w64] <;> omega), trivial⟩, trivial⟩
          rcases Nat.lt_or_ge i k with hik | hik
          · exact hall i hik
          · have : i = k := by simp only at hi; omega
            subst this
            exact s3 (by omega)
      · have hkn : k = n := by have := of_decide_eq_false h2; simp only at this; omega
        subst hkn
        exact ⟨[], .int .i64 r, [], by simp, Nat.zero_le _, .int _ _, trivial, r, rfl, rfl, by omega, by omega, fun _ => ⟨by omega, hall⟩⟩

theorem szTClassS (n : Nat) (hn : n ≤ 9223372036854775807) (f : Nat → TClass) (hf : ∀ i, i < n → (f i).Ok) (m : Int) (h0 : 0 ≤ m) (h1 : m ≤ 1048576) :
    ACall Try.prog 41 [.slc 4 n (fun i => TClass.cells (f i)), .int .i64 m] [] (SzR m (n ≤ 1048576 ∧ ∀ i, i < n → (f i).Small)) := by
  refine ACall.of_vc tabT_ok mixed Try.func41 rfl (by kernel_rfl) _ _ _ rfl (by kernel_rfl) ?_
  have e1 : IntKind.i64.wrap (m - (n : Int)) = m - n := by rw [w64] <;> omega
  refine splitB.mk (fun h => ?_) (fun h => ?_)
  · exact ⟨[], .int .i64 (-1), [], by simp, Nat.zero_le _, .int _ _, trivial, -1, rfl, rfl, by omega, by omega, fun h => by omega⟩
  · have h := of_decide_eq_false h
    rw [e1] at h
    refine LoopVC.mk (Nat × Int) (fun s => [(0, .slc 4 n (fun i => TClass.cells (f i))), (1, .int .i64 s.2), (5, .int .i64 s.1)])
      (fun s => []) (fun s => s.1 ≤ n ∧ 0 ≤ s.2 ∧ s.2 ≤ m ∧ ∀ i, i < s.1 → (f i).Small) (fun s => n - s.1) (0, m - n) ⟨Nat.zero_le _, by simp only; omega, by simp only; omega, fun i hi => absurd hi (Nat.not_lt_zero _)⟩ ?_ (fun s hs => ?_)
    · exact ⟨[], by simp, Nat.zero_le _, ⟨.slc_eq rfl (fun _ _ => rfl), .int_eq e1, .int_eq rfl, trivial⟩, trivial⟩
    · obtain ⟨k, r⟩ := s
      obtain ⟨hk1, hr0, hr1, hall⟩ := hs
      simp only at hk1 hr0 hr1 hall
      refine splitB.mk (fun h2 => ?_) (fun h2 => ?_)
      · have hkn : k < n := by have := of_decide_eq_true h2; simp only at this; omega
        refine ⟨⟨by simp only; omega, by simp only; omega⟩, ?_⟩
        refine ⟨_, szF (szTClass (f k) (hf k hkn) r hr0 (by omega)) _ rfl, ?_⟩
        rintro _ _ ⟨s, rfl, rfl, s1, s2, s3⟩
        refine splitB.mk (fun h => ?_) (fun h => ?_)
        · exact ⟨[], .int .i64 (-1), [], by simp, Nat.zero_le _, .int _ _, trivial, -1, rfl, rfl, by omega, by omega, fun h => by omega⟩
        · have h := of_decide_eq_false h
          refine ⟨(k + 1, s), ⟨by simp only; omega, by simp only; omega, by simp only; omega, fun i hi => ?_⟩, by simp only; omega, [], by simp, Nat.zero_le _, ⟨.slc_eq rfl (fun _ _ => rfl), .int_eq rfl, .int_eq (by simp only; rw [w64] <;> omega), trivial⟩, trivial⟩
          rcases Nat.lt_or_ge i k with hik | hik
          · exact hall i hik
          · have : i = k := by simp only at hi; omega
            subst this
            exact s3 (by omega)
      · have hkn : k = n := by have := of_decide_eq_false h2; simp only at this; omega
        subst hkn
        exact ⟨[], .int .i64 r, [], by simp, Nat.zero_le _, .int _ _, trivial, r, rfl, rfl, by omega, by omega, fun _ => ⟨by omega, hall⟩⟩

theorem szTProgram (x : TProgram) (ok : x.Ok) (m : Int) (h0 : 0 ≤ m) (h1 : m ≤ 1048576) : ACall Try.prog 18 [.agg x.cells, .int .i64 m] [] (SzR m x.Small) := by
  refine ACall.of_vc tabT_ok mixed Try.func18 rfl (by kernel_rfl) _ _ _ rfl (by kernel_rfl) ?_
  refine ⟨rfl, rfl, ?_⟩
  refine ⟨_, szF (szTFuncS x.funcsN ok.funcsN x.funcs ok.funcs (m) (by omega) (by omega)) _ rfl, ?_⟩
  rintro _ _ ⟨r1, rfl, rfl, a1, b1, c1⟩
  refine splitB.mk (fun h => ?_) (fun h => ?_)
  · exact ⟨[], .int .i64 (-1), [], by simp, Nat.zero_le _, .int _ _, trivial, -1, rfl, rfl, by omega, by omega, fun h => by omega⟩
  · have h := of_decide_eq_false h
    refine ⟨rfl, rfl, ?_⟩
    refine ⟨_, szF (szTClassS x.classesN ok.classesN x.classes ok.classes (r1) (by omega) (by omega)) _ rfl, ?_⟩
    rintro _ _ ⟨r2, rfl, rfl, a2, b2, c2⟩
    refine splitB.mk (fun h => ?_) (fun h => ?_)
    · exact ⟨[], .int .i64 (-1), [], by simp, Nat.zero_le _, .int _ _, trivial, -1, rfl, rfl, by omega, by omega, fun h => by omega⟩
    · have h := of_decide_eq_false h
      exact ⟨[], .int .i64 (r2), [], by simp, Nat.zero_le _, .int _ _, trivial, _, rfl, rfl, by omega, by omega, fun _ => ⟨(c1 (by omega)).1, (c1 (by omega)).2, (c2 (by omega)).1, (c2 (by omega)).2⟩⟩

end Go.Am
