/- Contracts of the functions that compare, copy and mark slices of numbers. -/
import Derived.Test.YtkmmhfcmbjlbkaaAm14
import Derived.Test.YtkmmhfcmbjlbkaaProg
set_option linter.unusedVariables false
set_option linter.unusedSimpArgs false
namespace Go.Am
open Go Go.RowKit Go.Proofs

def tab : Tab := mkTab [(3, .int .i64), (4, .bool), (5, .int .u8), (22, .slice 5 1 1 [.int .u8 0]), (23, .slice 3 1 8 [.int .i64 0]), (9, .str), (46, .struct 3 [(0, 1, false), (1, 1, false), (2, 1, false)] [.nils, .int .i64 0, .int .i64 0]), (38, .ptr 46)]
theorem tab_ok : TabOk Try.prog tab := tabOk (by kernel_rfl)
theorem mixed : Try.prog.follows .mixedOrders = true := by kernel_rfl

abbrev ints (k : IntKind) (z : Nat → Int) : Nat → List PV := fun i => [.int k (z i)]

theorem toByteS_ok (n : Nat) (hn : n ≤ 1048576) (z : Nat → Int) :
    ACall Try.prog 7 [.slc 1 n (ints .u8 z)] [] (fun res h => res = .own 0 0 0 n ∧ h = [.row 0 1 n 5 (ints .u8 z)]) := by
  refine ACall.of_vc tab_ok mixed Try.func7 rfl (by kernel_rfl) _ _ _ rfl (by kernel_rfl) ?_
  refine ⟨⟨by omega, by omega, by omega, by simp; omega⟩, ?_⟩
  refine LoopVC.mk Nat (fun k => [(0, .slc 1 n (ints .u8 z)), (3, .own 0 0 0 n), (4, .int .i64 k)])
    (fun k => [.row 0 1 n 5 (ints .u8 fun i => if i < k then z i else 0)]) (fun k => k ≤ n) (fun k => n - k) 0 (Nat.zero_le _) ?_ (fun k hk => ?_)
  · refine ⟨[0], by simp, Nat.zero_le _, ⟨.slc_eq rfl (fun _ _ => rfl), .own_eq rfl ⟨_, _, _, _, rfl⟩ ⟨_, _, _, _, rfl⟩ rfl rfl, .int_eq rfl, trivial⟩, ⟨fun _ => ⟨rfl, rfl⟩, rfl, rfl, rfl, fun i hi => ⟨.int_eq (by simp), trivial⟩⟩, trivial⟩
  · refine splitB.mk (fun h => ?_) (fun h => ?_)
    · have h := of_decide_eq_true h
      refine ⟨⟨by omega, by omega⟩, rfl, ⟨by omega, by omega⟩, rfl, ?_⟩
      refine ⟨k + 1, by omega, by omega, [0], by simp, Nat.zero_le _, ⟨.slc_eq rfl (fun _ _ => rfl), .own_eq rfl ⟨_, _, _, _, rfl⟩ ⟨_, _, _, _, rfl⟩ rfl rfl, .int_eq (by rw [w64] <;> omega), trivial⟩, ⟨fun _ => ⟨rfl, rfl⟩, rfl, rfl, rfl, ?_⟩, trivial⟩
      refine fzl_set ⟨.int_eq (by simp), trivial⟩ (fun i hi hne => ⟨.int_eq ?_, trivial⟩)
      have : i ≠ k := by simpa using hne
      dsimp only
      split <;> split <;> first | rfl | omega
    · have h := of_decide_eq_false h
      have hkn : k = n := by omega
      subst hkn
      refine ⟨[0], .own 0 0 0 k, [.row 0 1 k 5 (ints .u8 z)], by simp, Nat.zero_le _, .own_eq rfl ⟨_, _, _, _, rfl⟩ ⟨_, _, _, _, rfl⟩ rfl rfl, ⟨⟨fun _ => ⟨rfl, rfl⟩, rfl, rfl, rfl, fun i hi => ⟨.int_eq (by simp [hi]), trivial⟩⟩, trivial⟩, rfl, rfl⟩

theorem eqIntS_ok (n m : Nat) (hnm : n = m) (hn : n ≤ 4611686018427387904) (x y : Nat → Int) (hxy : ∀ i, i < n → x i = y i) :
    ACall Try.prog 9 [.slc 1 n (ints .i64 x), .slc 1 m (ints .i64 y)] [] (fun res h => res = .bool true ∧ h = []) := by
  subst hnm
  refine ACall.of_vc tab_ok mixed Try.func9 rfl (by kernel_rfl) _ _ _ rfl (by kernel_rfl) ?_
  refine splitB.mk (fun h => absurd h (by simp)) (fun h => ?_)
  refine LoopVC.mk Nat (fun k => [(0, .slc 1 n (ints .i64 x)), (1, .slc 1 n (ints .i64 y)), (5, .int .i64 k)])
    (fun k => []) (fun k => k ≤ n) (fun k => n - k) 0 (Nat.zero_le _) ?_ (fun k hk => ?_)
  · exact ⟨[], by simp, Nat.zero_le _, ⟨.slc_eq rfl (fun _ _ => rfl), .slc_eq rfl (fun _ _ => rfl), .int_eq rfl, trivial⟩, trivial⟩
  · refine splitB.mk (fun h => ?_) (fun h => ?_)
    · have h := of_decide_eq_true h
      refine ⟨⟨by omega, by omega⟩, ⟨by omega, by omega⟩, splitB.mk (fun hb => ?_) (fun hb => ?_)⟩
      · have := hxy k (by omega)
        simp [this] at hb
      · exact ⟨k + 1, by omega, by omega, [], by simp, Nat.zero_le _, ⟨.slc_eq rfl (fun _ _ => rfl), .slc_eq rfl (fun _ _ => rfl), .int_eq (by rw [w64] <;> omega), trivial⟩, trivial⟩
    · exact ⟨[], .bool true, [], by simp, Nat.zero_le _, .bool _, trivial, rfl, rfl⟩

theorem eqByteS_ok (n m : Nat) (hnm : n = m) (hn : n ≤ 4611686018427387904) (x y : Nat → Int) (hxy : ∀ i, i < n → x i = y i) :
    ACall Try.prog 10 [.slc 1 n (ints .u8 x), .slc 1 m (ints .u8 y)] [] (fun res h => res = .bool true ∧ h = []) := by
  subst hnm
  refine ACall.of_vc tab_ok mixed Try.func10 rfl (by kernel_rfl) _ _ _ rfl (by kernel_rfl) ?_
  refine splitB.mk (fun h => absurd h (by simp)) (fun h => ?_)
  refine LoopVC.mk Nat (fun k => [(0, .slc 1 n (ints .u8 x)), (1, .slc 1 n (ints .u8 y)), (5, .int .i64 k)])
    (fun k => []) (fun k => k ≤ n) (fun k => n - k) 0 (Nat.zero_le _) ?_ (fun k hk => ?_)
  · exact ⟨[], by simp, Nat.zero_le _, ⟨.slc_eq rfl (fun _ _ => rfl), .slc_eq rfl (fun _ _ => rfl), .int_eq rfl, trivial⟩, trivial⟩
  · refine splitB.mk (fun h => ?_) (fun h => ?_)
    · have h := of_decide_eq_true h
      refine ⟨⟨by omega, by omega⟩, ⟨by omega, by omega⟩, splitB.mk (fun hb => ?_) (fun hb => ?_)⟩
      · have := hxy k (by omega)
        simp [this] at hb
      · exact ⟨k + 1, by omega, by omega, [], by simp, Nat.zero_le _, ⟨.slc_eq rfl (fun _ _ => rfl), .slc_eq rfl (fun _ _ => rfl), .int_eq (by rw [w64] <;> omega), trivial⟩, trivial⟩
    · exact ⟨[], .bool true, [], by simp, Nat.zero_le _, .bool _, trivial, rfl, rfl⟩

theorem markByteS_ok (n g : Nat) (hn : n ≤ 1048576) (k0 : Nat) (hk0 : k0 ≤ 1048576) (z : Nat → Int) :
    ACall Try.prog 11 [.own 0 g 0 n, .int .i64 k0] [.row g 1 n 5 (ints .u8 z)] (fun res h => res = .int .i64 ((k0 + n : Nat) : Int) ∧ h = [.row g 1 n 5 (ints .u8 fun i => IntKind.u8.wrap ((k0 + i : Nat) : Int))]) := by
  refine ACall.of_vc tab_ok mixed Try.func11 rfl (by kernel_rfl) _ _ _ rfl (by kernel_rfl) ?_
  refine LoopVC.mk Nat (fun k => [(0, .own 0 g 0 n), (1, .int .i64 ((k0 + k : Nat) : Int)), (5, .int .i64 k)])
    (fun k => [.row g 1 n 5 (ints .u8 fun i => if i < k then IntKind.u8.wrap ((k0 + i : Nat) : Int) else z i)]) (fun k => k ≤ n) (fun k => n - k) 0 (Nat.zero_le _) ?_ (fun k hk => ?_)
  · exact ⟨[0], by simp, by simp, ⟨.own_eq rfl ⟨_, _, _, _, rfl⟩ ⟨_, _, _, _, rfl⟩ rfl rfl, .int_eq (by simp), .int_eq rfl, trivial⟩, ⟨fun _ => ⟨rfl, rfl⟩, rfl, rfl, rfl, fun i hi => ⟨.int_eq (by simp), trivial⟩⟩, trivial⟩
  · refine ⟨rfl, splitB.mk (fun h => ?_) (fun h => ?_)⟩
    · have h := of_decide_eq_true h
      refine ⟨rfl, ⟨by omega, by omega⟩, rfl, ?_⟩
      refine ⟨k + 1, by omega, by omega, [0], by simp, by simp, ⟨.own_eq rfl ⟨_, _, _, _, rfl⟩ ⟨_, _, _, _, rfl⟩ rfl rfl, .int_eq (by rw [w64] <;> omega), .int_eq (by rw [w64] <;> omega), trivial⟩, ⟨fun _ => ⟨rfl, rfl⟩, rfl, rfl, rfl, ?_⟩, trivial⟩
      refine fzl_set ⟨.int_eq (by simp), trivial⟩ (fun i hi hne => ⟨.int_eq ?_, trivial⟩)
      have : i ≠ k := by simpa using hne
      dsimp only
      split <;> split <;> first | rfl | omega
    · have h := of_decide_eq_false h
      have hkn : k = n := by omega
      subst hkn
      exact ⟨[0], .int .i64 ((k0 + k : Nat) : Int), [.row g 1 k 5 (ints .u8 fun i => IntKind.u8.wrap ((k0 + i : Nat) : Int))], by simp, by simp, .int _ _, ⟨⟨fun _ => ⟨rfl, rfl⟩, rfl, rfl, rfl, fun i hi => ⟨.int_eq (by simp [hi]), trivial⟩⟩, trivial⟩, rfl, rfl⟩

theorem markIntS_ok (n g : Nat) (hn : n ≤ 1048576) (k0 : Nat) (hk0 : k0 ≤ 1048576) (z : Nat → Int) :
    ACall Try.prog 12 [.own 0 g 0 n, .int .i64 k0] [.row g 1 n 3 (ints .i64 z)] (fun res h => res = .int .i64 ((k0 + n : Nat) : Int) ∧ h = [.row g 1 n 3 (ints .i64 fun i => ((k0 + i : Nat) : Int))]) := by
  refine ACall.of_vc tab_ok mixed Try.func12 rfl (by kernel_rfl) _ _ _ rfl (by kernel_rfl) ?_
  refine LoopVC.mk Nat (fun k => [(0, .own 0 g 0 n), (1, .int .i64 ((k0 + k : Nat) : Int)), (5, .int .i64 k)])
    (fun k => [.row g 1 n 3 (ints .i64 fun i => if i < k then ((k0 + i : Nat) : Int) else z i)]) (fun k => k ≤ n) (fun k => n - k) 0 (Nat.zero_le _) ?_ (fun k hk => ?_)
  · exact ⟨[0], by simp, by simp, ⟨.own_eq rfl ⟨_, _, _, _, rfl⟩ ⟨_, _, _, _, rfl⟩ rfl rfl, .int_eq (by simp), .int_eq rfl, trivial⟩, ⟨fun _ => ⟨rfl, rfl⟩, rfl, rfl, rfl, fun i hi => ⟨.int_eq (by simp), trivial⟩⟩, trivial⟩
  · refine ⟨rfl, splitB.mk (fun h => ?_) (fun h => ?_)⟩
    · have h := of_decide_eq_true h
      refine ⟨rfl, ⟨by omega, by omega⟩, rfl, ?_⟩
      refine ⟨k + 1, by omega, by omega, [0], by simp, by simp, ⟨.own_eq rfl ⟨_, _, _, _, rfl⟩ ⟨_, _, _, _, rfl⟩ rfl rfl, .int_eq (by rw [w64] <;> omega), .int_eq (by rw [w64] <;> omega), trivial⟩, ⟨fun _ => ⟨rfl, rfl⟩, rfl, rfl, rfl, ?_⟩, trivial⟩
      refine fzl_set ⟨.int_eq (by simp), trivial⟩ (fun i hi hne => ⟨.int_eq ?_, trivial⟩)
      have : i ≠ k := by simpa using hne
      dsimp only
      split <;> split <;> first | rfl | omega
    · have h := of_decide_eq_false h
      have hkn : k = n := by omega
      subst hkn
      exact ⟨[0], .int .i64 ((k0 + k : Nat) : Int), [.row g 1 k 3 (ints .i64 fun i => ((k0 + i : Nat) : Int))], by simp, by simp, .int _ _, ⟨⟨fun _ => ⟨rfl, rfl⟩, rfl, rfl, rfl, fun i hi => ⟨.int_eq (by simp [hi]), trivial⟩⟩, trivial⟩, rfl, rfl⟩

theorem heldIntS_ok (n : Nat) (hn : n ≤ 1048576) (k0 : Nat) (hk0 : k0 ≤ 1048576) :
    ACall Try.prog 13 [.slc 1 n (ints .i64 fun i => ((k0 + i : Nat) : Int)), .int .i64 k0] [] (fun res h => res = .int .i64 ((k0 + n : Nat) : Int) ∧ h = []) := by
  refine ACall.of_vc tab_ok mixed Try.func13 rfl (by kernel_rfl) _ _ _ rfl (by kernel_rfl) ?_
  refine LoopVC.mk Nat (fun k => [(0, .slc 1 n (ints .i64 fun i => ((k0 + i : Nat) : Int))), (1, .int .i64 ((k0 + k : Nat) : Int)), (5, .int .i64 k)])
    (fun k => []) (fun k => k ≤ n) (fun k => n - k) 0 (Nat.zero_le _) ?_ (fun k hk => ?_)
  · exact ⟨[], by simp, Nat.zero_le _, ⟨.slc_eq rfl (fun _ _ => rfl), .int_eq (by simp), .int_eq rfl, trivial⟩, trivial⟩
  · refine splitB.mk (fun h => ?_) (fun h => ?_)
    · have h := of_decide_eq_true h
      refine ⟨⟨by omega, by omega⟩, splitB.mk (fun hb => ?_) (fun hb => ?_)⟩
      · simp at hb
      · exact ⟨k + 1, by omega, by omega, [], by simp, Nat.zero_le _, ⟨.slc_eq rfl (fun _ _ => rfl), .int_eq (by rw [w64] <;> omega), .int_eq (by rw [w64] <;> omega), trivial⟩, trivial⟩
    · have h := of_decide_eq_false h
      have hkn : k = n := by omega
      subst hkn
      exact ⟨[], .int .i64 ((k0 + k : Nat) : Int), [], by simp, Nat.zero_le _, .int _ _, trivial, rfl, rfl⟩

theorem heldByteS_ok (n : Nat) (hn : n ≤ 1048576) (k0 : Nat) (hk0 : k0 ≤ 1048576) :
    ACall Try.prog 17 [.slc 1 n (ints .u8 fun i => IntKind.u8.wrap ((k0 + i : Nat) : Int)), .int .i64 k0] [] (fun res h => res = .int .i64 ((k0 + n : Nat) : Int) ∧ h = []) := by
  refine ACall.of_vc tab_ok mixed Try.func17 rfl (by kernel_rfl) _ _ _ rfl (by kernel_rfl) ?_
  refine LoopVC.mk Nat (fun k => [(0, .slc 1 n (ints .u8 fun i => IntKind.u8.wrap ((k0 + i : Nat) : Int))), (1, .int .i64 ((k0 + k : Nat) : Int)), (5, .int .i64 k)])
    (fun k => []) (fun k => k ≤ n) (fun k => n - k) 0 (Nat.zero_le _) ?_ (fun k hk => ?_)
  · exact ⟨[], by simp, Nat.zero_le _, ⟨.slc_eq rfl (fun _ _ => rfl), .int_eq (by simp), .int_eq rfl, trivial⟩, trivial⟩
  · refine splitB.mk (fun h => ?_) (fun h => ?_)
    · have h := of_decide_eq_true h
      refine ⟨⟨by omega, by omega⟩, splitB.mk (fun hb => ?_) (fun hb => ?_)⟩
      · simp at hb
      · exact ⟨k + 1, by omega, by omega, [], by simp, Nat.zero_le _, ⟨.slc_eq rfl (fun _ _ => rfl), .int_eq (by rw [w64] <;> omega), .int_eq (by rw [w64] <;> omega), trivial⟩, trivial⟩
    · have h := of_decide_eq_false h
      have hkn : k = n := by omega
      subst hkn
      exact ⟨[], .int .i64 ((k0 + k : Nat) : Int), [], by simp, Nat.zero_le _, .int _ _, trivial, rfl, rfl⟩

end Go.Am
