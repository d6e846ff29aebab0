/- The law on PackImage. -/
import Derived.Test.YtkmmhfcmbjlbkaaP2
set_option linter.unusedVariables false
set_option linter.unusedSimpArgs false
namespace Go.Am
open Go Go.RowKit Go.Proofs

abbrev rb (n : Nat) (z : Nat → Int) : AObj := .row 0 1 n 5 (ints .u8 z)
abbrev ri (n : Nat) (z : Nat → Int) : AObj := .row 0 1 (words n + 1) 3 (ints .i64 (packed z n))
abbrev rbm (n : Nat) : AObj := .row 0 1 n 5 (ints .u8 fun i => IntKind.u8.wrap ((1 + i : Nat) : Int))
abbrev rim (n : Nat) : AObj := .row 0 1 (words n + 1) 3 (ints .i64 fun i => ((1 + i : Nat) : Int))

theorem lawPack_small (n : Nat) (hs : n ≤ 24000) (z : Nat → Int) (hz : ∀ i, 0 ≤ z i ∧ z i ≤ 255) : ACall Try.prog 3 [.slc 1 n (ints .u8 z)] [] (fun res _ => res = .bool true) := by
  have hn : n ≤ 1048576 := by omega
  have hw : words n + 1 ≤ 1048576 := by unfold words; omega
  have eqI := eqIntS_ok (words n + 1) (words n + 1) rfl (by unfold words; omega) (packed z n) (packed z n) (fun _ _ => rfl)
  have eqB := eqByteS_ok n n rfl (by omega) z z (fun _ _ => rfl)
  refine ACall.of_vc tab_ok mixed Try.func3 rfl (by kernel_rfl) _ _ _ rfl (by kernel_rfl) ?_
  refine splitB.mk (fun h => absurd (of_decide_eq_true h) (by omega)) (fun _ => ?_)
  refine ⟨_, toByteS_ok n hn z, ?_⟩
  rintro _ _ ⟨rfl, rfl⟩
  refine ⟨fun res h' => res = .tup [.own 1 0 0 (words n + 1), .bool true] ∧ h' = [rb n z, ri n z], ((packS_ok n hs z hz).snapL (args := [.own 0 0 0 n]) [rb n z] ⟨.snap rfl rfl rfl (fun _ _ => rfl) (fun i _ => ⟨.int_eq (by simp), trivial⟩), trivial⟩ rfl (by rintro _ _ ⟨rfl, rfl⟩; exact ⟨rfl, by simp [flatO, flat1]⟩)).mono (by rintro _ _ ⟨_, _, ⟨rfl, rfl⟩, rfl, rfl⟩; exact ⟨rfl, rfl⟩), ?_⟩
  rintro _ _ ⟨rfl, rfl⟩
  refine ⟨fun res h' => res = .own 2 0 0 n ∧ h' = [rb n z, ri n z, rb n z], ((toByteS_ok n hn z).frame [rb n z, ri n z] rfl).mono (by rintro _ _ ⟨_, _, ⟨rfl, rfl⟩, rfl, rfl⟩; exact ⟨rfl, rfl⟩), ?_⟩
  rintro _ _ ⟨rfl, rfl⟩
  refine ⟨fun res h' => res = .tup [.own 3 0 0 (words n + 1), .bool true] ∧ h' = [rb n z, ri n z, rb n z, ri n z], ((packI_ok n hs z hz).snapL (args := [.own 2 0 0 n]) [rb n z, ri n z, rb n z] ⟨.snap rfl rfl rfl (fun _ _ => rfl) (fun i _ => ⟨.int_eq (by simp), trivial⟩), trivial⟩ rfl (by rintro _ _ ⟨rfl, rfl⟩; exact ⟨rfl, by simp [flatO, flat1]⟩)).mono (by rintro _ _ ⟨_, _, ⟨rfl, rfl⟩, rfl, rfl⟩; exact ⟨rfl, rfl⟩), ?_⟩
  rintro _ _ ⟨rfl, rfl⟩
  refine ⟨fun res h' => res = .bool true ∧ h' = [rb n z, ri n z, rb n z, ri n z], (eqI.snapL (args := [.own 3 0 0 (words n + 1), .own 1 0 0 (words n + 1)]) [rb n z, ri n z, rb n z, ri n z] ⟨.snap rfl rfl rfl (fun _ _ => rfl) (fun i _ => ⟨.int_eq (by simp), trivial⟩), .snap rfl rfl rfl (fun _ _ => rfl) (fun i _ => ⟨.int_eq (by simp), trivial⟩), trivial⟩ rfl (by rintro _ _ ⟨rfl, rfl⟩; exact ⟨rfl, by simp⟩)).mono (by rintro _ _ ⟨_, _, ⟨rfl, rfl⟩, rfl, rfl⟩; exact ⟨rfl, rfl⟩), ?_⟩
  rintro _ _ ⟨rfl, rfl⟩
  repeat refine splitB.mk (fun h => by first | exact absurd (of_decide_eq_true h) (by omega) | exact absurd h (by simp)) (fun _ => ?_)
  refine ⟨fun res h' => res = .own 4 0 0 n ∧ h' = [rb n z, ri n z, rb n z, ri n z, rb n z], ((toByteS_ok n hn z).frame [rb n z, ri n z, rb n z, ri n z] rfl).mono (by rintro _ _ ⟨_, _, ⟨rfl, rfl⟩, rfl, rfl⟩; exact ⟨rfl, rfl⟩), ?_⟩
  rintro _ _ ⟨rfl, rfl⟩
  refine ⟨fun res h' => res = .bool true ∧ h' = [rb n z, ri n z, rb n z, ri n z, rb n z], (eqB.snapL (args := [.own 2 0 0 n, .own 4 0 0 n]) [rb n z, ri n z, rb n z, ri n z, rb n z] ⟨.snap rfl rfl rfl (fun _ _ => rfl) (fun i _ => ⟨.int_eq (by simp), trivial⟩), .snap rfl rfl rfl (fun _ _ => rfl) (fun i _ => ⟨.int_eq (by simp), trivial⟩), trivial⟩ rfl (by rintro _ _ ⟨rfl, rfl⟩; exact ⟨rfl, by simp⟩)).mono (by rintro _ _ ⟨_, _, ⟨rfl, rfl⟩, rfl, rfl⟩; exact ⟨rfl, rfl⟩), ?_⟩
  rintro _ _ ⟨rfl, rfl⟩
  repeat refine splitB.mk (fun h => by first | exact absurd (of_decide_eq_true h) (by omega) | exact absurd h (by simp)) (fun _ => ?_)
  refine ⟨fun res h' => res = .int .i64 ((1 + n : Nat) : Int) ∧ h' = [rb n z, ri n z, rbm n, ri n z, rb n z], ((markByteS_ok n 0 hn 1 (by omega) z).over [2] [rb n z, ri n z, rb n z, ri n z, rb n z] rfl (by simp) (by simp) (by rintro (_ | j) o hj <;> cases hj <;> rfl) rfl).mono (by rintro _ _ ⟨_, _, ⟨rfl, rfl⟩, rfl, rfl⟩; exact ⟨rfl, rfl⟩), ?_⟩
  rintro _ _ ⟨rfl, rfl⟩
  repeat refine splitB.mk (fun h => by first | exact absurd (of_decide_eq_true h) (by omega) | exact absurd h (by simp)) (fun _ => ?_)
  refine ⟨fun res h' => res = .bool true ∧ h' = [rb n z, ri n z, rbm n, ri n z, rb n z], (eqI.snapL (args := [.own 3 0 0 (words n + 1), .own 1 0 0 (words n + 1)]) [rb n z, ri n z, rbm n, ri n z, rb n z] ⟨.snap rfl rfl rfl (fun _ _ => rfl) (fun i _ => ⟨.int_eq (by simp), trivial⟩), .snap rfl rfl rfl (fun _ _ => rfl) (fun i _ => ⟨.int_eq (by simp), trivial⟩), trivial⟩ rfl (by rintro _ _ ⟨rfl, rfl⟩; exact ⟨rfl, by simp⟩)).mono (by rintro _ _ ⟨_, _, ⟨rfl, rfl⟩, rfl, rfl⟩; exact ⟨rfl, rfl⟩), ?_⟩
  rintro _ _ ⟨rfl, rfl⟩
  repeat refine splitB.mk (fun h => by first | exact absurd (of_decide_eq_true h) (by omega) | exact absurd h (by simp)) (fun _ => ?_)
  refine ⟨fun res h' => res = .int .i64 ((1 + (words n + 1) : Nat) : Int) ∧ h' = [rb n z, ri n z, rbm n, rim n, rb n z], ((markIntS_ok (words n + 1) 0 hw 1 (by omega) (packed z n)).over [3] [rb n z, ri n z, rbm n, ri n z, rb n z] rfl (by simp) (by simp) (by rintro (_ | j) o hj <;> cases hj <;> rfl) rfl).mono (by rintro _ _ ⟨_, _, ⟨rfl, rfl⟩, rfl, rfl⟩; exact ⟨rfl, rfl⟩), ?_⟩
  rintro _ _ ⟨rfl, rfl⟩
  refine ⟨fun res h' => res = .int .i64 ((1 + (words n + 1) : Nat) : Int) ∧ h' = [rb n z, ri n z, rbm n, rim n, rb n z], ((heldIntS_ok (words n + 1) hw 1 (by omega)).snapL (args := [.own 3 0 0 (words n + 1), .int .i64 1]) [rb n z, ri n z, rbm n, rim n, rb n z] ⟨.snap rfl rfl rfl (fun _ _ => rfl) (fun i _ => ⟨.int_eq (by simp), trivial⟩), .int _ _, trivial⟩ rfl (by rintro _ _ ⟨rfl, rfl⟩; exact ⟨rfl, by simp⟩)).mono (by rintro _ _ ⟨_, _, ⟨rfl, rfl⟩, rfl, rfl⟩; exact ⟨rfl, rfl⟩), ?_⟩
  rintro _ _ ⟨rfl, rfl⟩
  repeat refine splitB.mk (fun h => by first | exact absurd (of_decide_eq_true h) (by omega) | exact absurd h (by simp)) (fun _ => ?_)
  refine ⟨fun res h' => res = .own 5 0 0 n ∧ h' = [rb n z, ri n z, rbm n, rim n, rb n z, rb n z], ((toByteS_ok n hn z).frame [rb n z, ri n z, rbm n, rim n, rb n z] rfl).mono (by rintro _ _ ⟨_, _, ⟨rfl, rfl⟩, rfl, rfl⟩; exact ⟨rfl, rfl⟩), ?_⟩
  rintro _ _ ⟨rfl, rfl⟩
  refine ⟨fun res h' => res = .tup [.own 6 0 0 (words n + 1), .bool true] ∧ h' = [rb n z, ri n z, rbm n, rim n, rb n z, rb n z, ri n z], ((packI_ok n hs z hz).snapL (args := [.own 5 0 0 n]) [rb n z, ri n z, rbm n, rim n, rb n z, rb n z] ⟨.snap rfl rfl rfl (fun _ _ => rfl) (fun i _ => ⟨.int_eq (by simp), trivial⟩), trivial⟩ rfl (by rintro _ _ ⟨rfl, rfl⟩; exact ⟨rfl, by simp [flatO, flat1]⟩)).mono (by rintro _ _ ⟨_, _, ⟨rfl, rfl⟩, rfl, rfl⟩; exact ⟨rfl, rfl⟩), ?_⟩
  rintro _ _ ⟨rfl, rfl⟩
  refine ⟨fun res h' => res = .bool true ∧ h' = [rb n z, ri n z, rbm n, rim n, rb n z, rb n z, ri n z], (eqI.snapL (args := [.own 6 0 0 (words n + 1), .own 1 0 0 (words n + 1)]) [rb n z, ri n z, rbm n, rim n, rb n z, rb n z, ri n z] ⟨.snap rfl rfl rfl (fun _ _ => rfl) (fun i _ => ⟨.int_eq (by simp), trivial⟩), .snap rfl rfl rfl (fun _ _ => rfl) (fun i _ => ⟨.int_eq (by simp), trivial⟩), trivial⟩ rfl (by rintro _ _ ⟨rfl, rfl⟩; exact ⟨rfl, by simp⟩)).mono (by rintro _ _ ⟨_, _, ⟨rfl, rfl⟩, rfl, rfl⟩; exact ⟨rfl, rfl⟩), ?_⟩
  rintro _ _ ⟨rfl, rfl⟩
  repeat refine splitB.mk (fun h => by first | exact absurd (of_decide_eq_true h) (by omega) | exact absurd h (by simp)) (fun _ => ?_)
  refine ⟨fun res h' => res = .int .i64 ((1 + (words n + 1) : Nat) : Int) ∧ h' = [rb n z, ri n z, rbm n, rim n, rb n z, rb n z, ri n z], ((heldIntS_ok (words n + 1) hw 1 (by omega)).snapL (args := [.own 3 0 0 (words n + 1), .int .i64 1]) [rb n z, ri n z, rbm n, rim n, rb n z, rb n z, ri n z] ⟨.snap rfl rfl rfl (fun _ _ => rfl) (fun i _ => ⟨.int_eq (by simp), trivial⟩), .int _ _, trivial⟩ rfl (by rintro _ _ ⟨rfl, rfl⟩; exact ⟨rfl, by simp⟩)).mono (by rintro _ _ ⟨_, _, ⟨rfl, rfl⟩, rfl, rfl⟩; exact ⟨rfl, rfl⟩), ?_⟩
  rintro _ _ ⟨rfl, rfl⟩
  repeat refine splitB.mk (fun h => by first | exact absurd (of_decide_eq_true h) (by omega) | exact absurd h (by simp)) (fun _ => ?_)
  exact ⟨[], .bool true, [], by simp, Nat.zero_le _, .bool _, trivial, rfl⟩

abbrev re : AObj := .row 0 1 0 3 (ints .i64 fun _ => 0)

theorem markInt0 : ACall Try.prog 12 [.nils, .int .i64 1] [] (fun res h => res = .int .i64 1 ∧ h = []) := by
  refine ACall.of_vc tab_ok mixed Try.func12 rfl (by kernel_rfl) _ _ _ rfl (by kernel_rfl) ?_
  refine LoopVC.mk Unit (fun _ => [(0, .nils), (1, .int .i64 1), (5, .int .i64 0)]) (fun _ => []) (fun _ => True) (fun _ => 0) () trivial ?_ (fun k hk => ?_)
  · exact ⟨[], by simp, Nat.zero_le _, ⟨.nils, .int_eq rfl, .int_eq rfl, trivial⟩, trivial⟩
  · refine splitB.mk (fun h => absurd h (by simp)) (fun _ => ?_)
    exact ⟨[], .int .i64 1, [], by simp, Nat.zero_le _, .int _ _, trivial, rfl, rfl⟩

theorem lawPack_big (n : Nat) (hs : 24000 < n) (hn : n ≤ 1048576) (z : Nat → Int) : ACall Try.prog 3 [.slc 1 n (ints .u8 z)] [] (fun res _ => res = .bool true) := by
  have eqI := eqIntS_ok 0 0 rfl (by omega) (fun _ => 0) (fun _ => 0) (fun _ _ => rfl)
  have eqB := eqByteS_ok n n rfl (by omega) z z (fun _ _ => rfl)
  have held0 := heldIntS_ok 0 (by omega) 1 (by omega)
  refine ACall.of_vc tab_ok mixed Try.func3 rfl (by kernel_rfl) _ _ _ rfl (by kernel_rfl) ?_
  refine splitB.mk (fun h => absurd (of_decide_eq_true h) (by omega)) (fun _ => ?_)
  refine ⟨_, toByteS_ok n hn z, ?_⟩
  rintro _ _ ⟨rfl, rfl⟩
  refine ⟨fun res h' => res = .tup [.own 1 0 0 0, .bool false] ∧ h' = [rb n z, re], ((packS_big n hs (ints .u8 z)).snapL (args := [.own 0 0 0 n]) [rb n z] ⟨.snap rfl rfl rfl (fun _ _ => rfl) (fun i _ => ⟨.int_eq (by simp), trivial⟩), trivial⟩ rfl (by rintro _ _ ⟨rfl, rfl⟩; exact ⟨rfl, by simp [flatO, flat1]⟩)).mono (by rintro _ _ ⟨_, _, ⟨rfl, rfl⟩, rfl, rfl⟩; exact ⟨rfl, rfl⟩), ?_⟩
  rintro _ _ ⟨rfl, rfl⟩
  refine ⟨fun res h' => res = .own 2 0 0 n ∧ h' = [rb n z, re, rb n z], ((toByteS_ok n hn z).frame [rb n z, re] rfl).mono (by rintro _ _ ⟨_, _, ⟨rfl, rfl⟩, rfl, rfl⟩; exact ⟨rfl, rfl⟩), ?_⟩
  rintro _ _ ⟨rfl, rfl⟩
  refine ⟨fun res h' => res = .tup [.nils, .bool false] ∧ h' = [rb n z, re, rb n z], ((packI_big n hs (ints .u8 z)).snapL (args := [.own 2 0 0 n]) [rb n z, re, rb n z] ⟨.snap rfl rfl rfl (fun _ _ => rfl) (fun i _ => ⟨.int_eq (by simp), trivial⟩), trivial⟩ rfl (by rintro _ _ ⟨rfl, rfl⟩; exact ⟨rfl, by simp⟩)).mono (by rintro _ _ ⟨_, _, ⟨rfl, rfl⟩, rfl, rfl⟩; exact ⟨rfl, rfl⟩), ?_⟩
  rintro _ _ ⟨rfl, rfl⟩
  refine ⟨fun res h' => res = .bool true ∧ h' = [rb n z, re, rb n z], (eqI.snapL (args := [.nils, .own 1 0 0 0]) [rb n z, re, rb n z] ⟨.nils0 _ _, .snap rfl rfl rfl (fun _ _ => rfl) (fun i hi => absurd hi (Nat.not_lt_zero _)), trivial⟩ rfl (by rintro _ _ ⟨rfl, rfl⟩; exact ⟨rfl, by simp⟩)).mono (by rintro _ _ ⟨_, _, ⟨rfl, rfl⟩, rfl, rfl⟩; exact ⟨rfl, rfl⟩), ?_⟩
  rintro _ _ ⟨rfl, rfl⟩
  repeat refine splitB.mk (fun h => by first | exact absurd (of_decide_eq_true h) (by omega) | exact absurd h (by simp)) (fun _ => ?_)
  refine ⟨fun res h' => res = .own 3 0 0 n ∧ h' = [rb n z, re, rb n z, rb n z], ((toByteS_ok n hn z).frame [rb n z, re, rb n z] rfl).mono (by rintro _ _ ⟨_, _, ⟨rfl, rfl⟩, rfl, rfl⟩; exact ⟨rfl, rfl⟩), ?_⟩
  rintro _ _ ⟨rfl, rfl⟩
  refine ⟨fun res h' => res = .bool true ∧ h' = [rb n z, re, rb n z, rb n z], (eqB.snapL (args := [.own 2 0 0 n, .own 3 0 0 n]) [rb n z, re, rb n z, rb n z] ⟨.snap rfl rfl rfl (fun _ _ => rfl) (fun i _ => ⟨.int_eq (by simp), trivial⟩), .snap rfl rfl rfl (fun _ _ => rfl) (fun i _ => ⟨.int_eq (by simp), trivial⟩), trivial⟩ rfl (by rintro _ _ ⟨rfl, rfl⟩; exact ⟨rfl, by simp⟩)).mono (by rintro _ _ ⟨_, _, ⟨rfl, rfl⟩, rfl, rfl⟩; exact ⟨rfl, rfl⟩), ?_⟩
  rintro _ _ ⟨rfl, rfl⟩
  repeat refine splitB.mk (fun h => by first | exact absurd (of_decide_eq_true h) (by omega) | exact absurd h (by simp)) (fun _ => ?_)
  refine ⟨fun res h' => res = .int .i64 ((1 + n : Nat) : Int) ∧ h' = [rb n z, re, rbm n, rb n z], ((markByteS_ok n 0 hn 1 (by omega) z).over [2] [rb n z, re, rb n z, rb n z] rfl (by simp) (by simp) (by rintro (_ | j) o hj <;> cases hj <;> rfl) rfl).mono (by rintro _ _ ⟨_, _, ⟨rfl, rfl⟩, rfl, rfl⟩; exact ⟨rfl, rfl⟩), ?_⟩
  rintro _ _ ⟨rfl, rfl⟩
  repeat refine splitB.mk (fun h => by first | exact absurd (of_decide_eq_true h) (by omega) | exact absurd h (by simp)) (fun _ => ?_)
  refine ⟨fun res h' => res = .bool true ∧ h' = [rb n z, re, rbm n, rb n z], (eqI.snapL (args := [.nils, .own 1 0 0 0]) [rb n z, re, rbm n, rb n z] ⟨.nils0 _ _, .snap rfl rfl rfl (fun _ _ => rfl) (fun i hi => absurd hi (Nat.not_lt_zero _)), trivial⟩ rfl (by rintro _ _ ⟨rfl, rfl⟩; exact ⟨rfl, by simp⟩)).mono (by rintro _ _ ⟨_, _, ⟨rfl, rfl⟩, rfl, rfl⟩; exact ⟨rfl, rfl⟩), ?_⟩
  rintro _ _ ⟨rfl, rfl⟩
  repeat refine splitB.mk (fun h => by first | exact absurd (of_decide_eq_true h) (by omega) | exact absurd h (by simp)) (fun _ => ?_)
  refine ⟨fun res h' => res = .int .i64 1 ∧ h' = [rb n z, re, rbm n, rb n z], (markInt0.frame [rb n z, re, rbm n, rb n z] rfl).mono (by rintro _ _ ⟨_, _, ⟨rfl, rfl⟩, rfl, rfl⟩; exact ⟨rfl, rfl⟩), ?_⟩
  rintro _ _ ⟨rfl, rfl⟩
  refine ⟨fun res h' => res = .int .i64 ((1 + 0 : Nat) : Int) ∧ h' = [rb n z, re, rbm n, rb n z], (held0.snapL (args := [.nils, .int .i64 1]) [rb n z, re, rbm n, rb n z] ⟨.nils0 _ _, .int _ _, trivial⟩ rfl (by rintro _ _ ⟨rfl, rfl⟩; exact ⟨rfl, by simp⟩)).mono (by rintro _ _ ⟨_, _, ⟨rfl, rfl⟩, rfl, rfl⟩; exact ⟨rfl, rfl⟩), ?_⟩
  rintro _ _ ⟨rfl, rfl⟩
  repeat refine splitB.mk (fun h => by first | exact absurd (of_decide_eq_true h) (by omega) | exact absurd h (by simp)) (fun _ => ?_)
  refine ⟨fun res h' => res = .own 4 0 0 n ∧ h' = [rb n z, re, rbm n, rb n z, rb n z], ((toByteS_ok n hn z).frame [rb n z, re, rbm n, rb n z] rfl).mono (by rintro _ _ ⟨_, _, ⟨rfl, rfl⟩, rfl, rfl⟩; exact ⟨rfl, rfl⟩), ?_⟩
  rintro _ _ ⟨rfl, rfl⟩
  refine ⟨fun res h' => res = .tup [.nils, .bool false] ∧ h' = [rb n z, re, rbm n, rb n z, rb n z], ((packI_big n hs (ints .u8 z)).snapL (args := [.own 4 0 0 n]) [rb n z, re, rbm n, rb n z, rb n z] ⟨.snap rfl rfl rfl (fun _ _ => rfl) (fun i _ => ⟨.int_eq (by simp), trivial⟩), trivial⟩ rfl (by rintro _ _ ⟨rfl, rfl⟩; exact ⟨rfl, by simp⟩)).mono (by rintro _ _ ⟨_, _, ⟨rfl, rfl⟩, rfl, rfl⟩; exact ⟨rfl, rfl⟩), ?_⟩
  rintro _ _ ⟨rfl, rfl⟩
  refine ⟨fun res h' => res = .bool true ∧ h' = [rb n z, re, rbm n, rb n z, rb n z], (eqI.snapL (args := [.nils, .own 1 0 0 0]) [rb n z, re, rbm n, rb n z, rb n z] ⟨.nils0 _ _, .snap rfl rfl rfl (fun _ _ => rfl) (fun i hi => absurd hi (Nat.not_lt_zero _)), trivial⟩ rfl (by rintro _ _ ⟨rfl, rfl⟩; exact ⟨rfl, by simp⟩)).mono (by rintro _ _ ⟨_, _, ⟨rfl, rfl⟩, rfl, rfl⟩; exact ⟨rfl, rfl⟩), ?_⟩
  rintro _ _ ⟨rfl, rfl⟩
  repeat refine splitB.mk (fun h => by first | exact absurd (of_decide_eq_true h) (by omega) | exact absurd h (by simp)) (fun _ => ?_)
  refine ⟨fun res h' => res = .int .i64 ((1 + 0 : Nat) : Int) ∧ h' = [rb n z, re, rbm n, rb n z, rb n z], (held0.snapL (args := [.nils, .int .i64 1]) [rb n z, re, rbm n, rb n z, rb n z] ⟨.nils0 _ _, .int _ _, trivial⟩ rfl (by rintro _ _ ⟨rfl, rfl⟩; exact ⟨rfl, by simp⟩)).mono (by rintro _ _ ⟨_, _, ⟨rfl, rfl⟩, rfl, rfl⟩; exact ⟨rfl, rfl⟩), ?_⟩
  rintro _ _ ⟨rfl, rfl⟩
  repeat refine splitB.mk (fun h => by first | exact absurd (of_decide_eq_true h) (by omega) | exact absurd h (by simp)) (fun _ => ?_)
  exact ⟨[], .bool true, [], by simp, Nat.zero_le _, .bool _, trivial, rfl⟩

theorem lawPack (n : Nat) (z : Nat → Int) (hz : ∀ i, 0 ≤ z i ∧ z i ≤ 255) : ACall Try.prog 3 [.slc 1 n (ints .u8 z)] [] (fun res _ => res = .bool true) := by
  by_cases h1 : 1048576 < n
  · refine ACall.of_vc tab_ok mixed Try.func3 rfl (by kernel_rfl) _ _ _ rfl (by kernel_rfl) ?_
    refine splitB.mk (fun _ => ?_) (fun h => absurd (of_decide_eq_false h) (by omega))
    exact ⟨[], .bool true, [], by simp, Nat.zero_le _, .bool _, trivial, rfl⟩
  · by_cases h2 : 24000 < n
    · exact lawPack_big n h2 (by omega) z
    · exact lawPack_small n (by omega) z hz

end Go.Am
