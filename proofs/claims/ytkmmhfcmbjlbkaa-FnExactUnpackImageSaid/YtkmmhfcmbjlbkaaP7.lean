/- The law on UnpackImage. -/
import Derived.Test.YtkmmhfcmbjlbkaaP6
set_option linter.unusedVariables false
set_option linter.unusedSimpArgs false
namespace Go.Am
open Go Go.RowKit Go.Proofs

abbrev rx (n : Nat) (x : Nat → Int) : AObj := .row 0 1 n 3 (ints .i64 x)
abbrev ru (n : Nat) (x : Nat → Int) : AObj := .row 0 1 (6 * (n - 1)) 5 (ints .u8 (ubyte x))
abbrev rxm (n : Nat) : AObj := .row 0 1 n 3 (ints .i64 fun i => ((1 + i : Nat) : Int))
abbrev rum (n : Nat) (x : Nat → Int) : AObj := .row 0 1 (6 * (n - 1)) 5 (ints .u8 fun i => if i < (x 0).toNat then IntKind.u8.wrap ((1 + i : Nat) : Int) else ubyte x i)
abbrev re8 : AObj := .row 0 1 0 5 (ints .u8 fun _ => 0)

theorem markByteN (n N g : Nat) (hnN : n ≤ N) (hn : n ≤ 1048576) (k0 : Nat) (hk0 : k0 ≤ 1048576) (z : Nat → Int) :
    ACall Try.prog 11 [.own 0 g 0 n, .int .i64 k0] [.row g 1 N 5 (ints .u8 z)] (fun res h => res = .int .i64 ((k0 + n : Nat) : Int) ∧ h = [.row g 1 N 5 (ints .u8 fun i => if i < n then IntKind.u8.wrap ((k0 + i : Nat) : Int) else z i)]) := by
  refine ACall.of_vc tab_ok mixed Try.func11 rfl (by kernel_rfl) _ _ _ rfl (by kernel_rfl) ?_
  refine LoopVC.mk Nat (fun k => [(0, .own 0 g 0 n), (1, .int .i64 ((k0 + k : Nat) : Int)), (5, .int .i64 k)])
    (fun k => [.row g 1 N 5 (ints .u8 fun i => if i < k then IntKind.u8.wrap ((k0 + i : Nat) : Int) else z i)]) (fun k => k ≤ n) (fun k => n - k) 0 (Nat.zero_le _) ?_ (fun k hk => ?_)
  · exact ⟨[0], by simp, by simp, ⟨.own_eq rfl ⟨_, _, _, _, rfl⟩ ⟨_, _, _, _, rfl⟩ rfl rfl, .int_eq (by simp), .int_eq rfl, trivial⟩, ⟨fun _ => ⟨rfl, rfl⟩, rfl, rfl, rfl, fun i hi => ⟨.int_eq (by simp), trivial⟩⟩, trivial⟩
  · refine ⟨rfl, splitB.mk (fun h => ?_) (fun h => ?_)⟩
    · have h := of_decide_eq_true h
      refine ⟨rfl, ⟨by omega, by omega⟩, rfl, ?_⟩
      refine ⟨k + 1, by omega, by omega, [0], by simp, by simp, ⟨.own_eq rfl ⟨_, _, _, _, rfl⟩ ⟨_, _, _, _, rfl⟩ rfl rfl, .int_eq (by rw [w64] <;> omega), .int_eq (by rw [w64] <;> omega), trivial⟩, ⟨fun _ => ⟨rfl, rfl⟩, rfl, rfl, rfl, ?_⟩, trivial⟩
      refine fzl_set ⟨.int_eq (by simp), trivial⟩ (fun i hi hne => ⟨.int_eq ?_, trivial⟩)
      have : i ≠ k := by simpa using hne
      dsimp only
      split <;> split <;> first | rfl | omega
    · have h := of_decide_eq_false h
      have hkn : k = n := by omega
      subst hkn
      exact ⟨[0], .int .i64 ((k0 + k : Nat) : Int), [.row g 1 N 5 (ints .u8 fun i => if i < k then IntKind.u8.wrap ((k0 + i : Nat) : Int) else z i)], by simp, by simp, .int _ _, ⟨⟨fun _ => ⟨rfl, rfl⟩, rfl, rfl, rfl, fun i hi => ⟨.int_eq rfl, trivial⟩⟩, trivial⟩, rfl, rfl⟩

theorem markByte0 : ACall Try.prog 11 [.nils, .int .i64 1] [] (fun res h => res = .int .i64 1 ∧ h = []) := by
  refine ACall.of_vc tab_ok mixed Try.func11 rfl (by kernel_rfl) _ _ _ rfl (by kernel_rfl) ?_
  refine LoopVC.mk Unit (fun _ => [(0, .nils), (1, .int .i64 1), (5, .int .i64 0)]) (fun _ => []) (fun _ => True) (fun _ => 0) () trivial ?_ (fun k hk => ?_)
  · exact ⟨[], by simp, Nat.zero_le _, ⟨.nils, .int_eq rfl, .int_eq rfl, trivial⟩, trivial⟩
  · refine splitB.mk (fun h => absurd h (by simp)) (fun _ => ?_)
    exact ⟨[], .int .i64 1, [], by simp, Nat.zero_le _, .int _ _, trivial, rfl, rfl⟩

theorem lawUnpack_good (n : Nat) (hn : n ≤ 1048576) (x : Nat → Int) (hg : goodImg n x) : ACall Try.prog 4 [.slc 1 n (ints .i64 x)] [] (fun res _ => res = .bool true) := by
  have hm : (x 0).toNat ≤ 1048576 := by have h1 := hg.1.2.1; have h2 := hg.1.2.2.1; omega
  have hmn : (x 0).toNat ≤ 6 * (n - 1) := by have h1 := hg.1.2.1; have h2 := hg.1.2.2.2; omega
  have eqI := eqIntS_ok n n rfl (by omega) x x (fun _ _ => rfl)
  have eqB := eqByteS_ok (x 0).toNat (x 0).toNat rfl (by omega) (ubyte x) (ubyte x) (fun _ _ => rfl)
  have heldM := heldByteS_ok (x 0).toNat hm 1 (by omega)
  have unS : ACall Try.prog 14 [.slc 1 n (ints .i64 x)] [] (fun res h => res = .tup [.own 0 0 0 (x 0).toNat, .bool true] ∧ h = [ru n x]) :=
    (unpackS_ok n hn x).mono fun res h hr => by rcases hr with ⟨_, h1, h2⟩ | ⟨h0, _⟩; exact ⟨h1, h2⟩; exact absurd hg h0
  have unI : ACall Try.prog 16 [.slc 1 n (ints .i64 x)] [] (fun res h => res = .tup [.own 0 0 0 (x 0).toNat, .bool true] ∧ h = [ru n x]) :=
    (unpackI_ok n hn x).mono fun res h hr => by rcases hr with ⟨_, h1, h2⟩ | ⟨h0, _⟩; exact ⟨h1, h2⟩; exact absurd hg h0
  refine ACall.of_vc tab_ok mixed Try.func4 rfl (by kernel_rfl) _ _ _ rfl (by kernel_rfl) ?_
  refine splitB.mk (fun h => absurd (of_decide_eq_true h) (by omega)) (fun _ => ?_)
  refine ⟨_, toIntS_ok n hn x, ?_⟩
  rintro _ _ ⟨rfl, rfl⟩
  refine ⟨fun res h' => res = .tup [.own 1 0 0 (x 0).toNat, .bool true] ∧ h' = [rx n x, ru n x], (unS.snapL (args := [.own 0 0 0 n]) [rx n x] ⟨.snap rfl rfl rfl (fun _ _ => rfl) (fun i hi => ⟨.int_eq (by simp [hi]), trivial⟩), trivial⟩ rfl (by rintro _ _ ⟨rfl, rfl⟩; exact ⟨rfl, by simp [flatO, flat1]⟩)).mono (by rintro _ _ ⟨_, _, ⟨rfl, rfl⟩, rfl, rfl⟩; exact ⟨rfl, rfl⟩), ?_⟩
  rintro _ _ ⟨rfl, rfl⟩
  refine ⟨fun res h' => res = .own 2 0 0 n ∧ h' = [rx n x, ru n x, rx n x], ((toIntS_ok n hn x).frame [rx n x, ru n x] rfl).mono (by rintro _ _ ⟨_, _, ⟨rfl, rfl⟩, rfl, rfl⟩; exact ⟨rfl, rfl⟩), ?_⟩
  rintro _ _ ⟨rfl, rfl⟩
  refine ⟨fun res h' => res = .tup [.own 3 0 0 (x 0).toNat, .bool true] ∧ h' = [rx n x, ru n x, rx n x, ru n x], (unI.snapL (args := [.own 2 0 0 n]) [rx n x, ru n x, rx n x] ⟨.snap rfl rfl rfl (fun _ _ => rfl) (fun i hi => ⟨.int_eq (by simp [hi]), trivial⟩), trivial⟩ rfl (by rintro _ _ ⟨rfl, rfl⟩; exact ⟨rfl, by simp [flatO, flat1]⟩)).mono (by rintro _ _ ⟨_, _, ⟨rfl, rfl⟩, rfl, rfl⟩; exact ⟨rfl, rfl⟩), ?_⟩
  rintro _ _ ⟨rfl, rfl⟩
  refine ⟨fun res h' => res = .bool true ∧ h' = [rx n x, ru n x, rx n x, ru n x], (eqB.snapL (args := [.own 3 0 0 (x 0).toNat, .own 1 0 0 (x 0).toNat]) [rx n x, ru n x, rx n x, ru n x] ⟨.snap rfl rfl rfl (fun _ _ => rfl) (fun i hi => ⟨.int_eq (by simp [hi]), trivial⟩), .snap rfl rfl rfl (fun _ _ => rfl) (fun i hi => ⟨.int_eq (by simp [hi]), trivial⟩), trivial⟩ rfl (by rintro _ _ ⟨rfl, rfl⟩; exact ⟨rfl, by simp⟩)).mono (by rintro _ _ ⟨_, _, ⟨rfl, rfl⟩, rfl, rfl⟩; exact ⟨rfl, rfl⟩), ?_⟩
  rintro _ _ ⟨rfl, rfl⟩
  repeat refine splitB.mk (fun h => by first | exact absurd (of_decide_eq_true h) (by omega) | exact absurd h (by simp)) (fun _ => ?_)
  refine ⟨fun res h' => res = .own 4 0 0 n ∧ h' = [rx n x, ru n x, rx n x, ru n x, rx n x], ((toIntS_ok n hn x).frame [rx n x, ru n x, rx n x, ru n x] rfl).mono (by rintro _ _ ⟨_, _, ⟨rfl, rfl⟩, rfl, rfl⟩; exact ⟨rfl, rfl⟩), ?_⟩
  rintro _ _ ⟨rfl, rfl⟩
  refine ⟨fun res h' => res = .bool true ∧ h' = [rx n x, ru n x, rx n x, ru n x, rx n x], (eqI.snapL (args := [.own 2 0 0 n, .own 4 0 0 n]) [rx n x, ru n x, rx n x, ru n x, rx n x] ⟨.snap rfl rfl rfl (fun _ _ => rfl) (fun i hi => ⟨.int_eq (by simp [hi]), trivial⟩), .snap rfl rfl rfl (fun _ _ => rfl) (fun i hi => ⟨.int_eq (by simp [hi]), trivial⟩), trivial⟩ rfl (by rintro _ _ ⟨rfl, rfl⟩; exact ⟨rfl, by simp⟩)).mono (by rintro _ _ ⟨_, _, ⟨rfl, rfl⟩, rfl, rfl⟩; exact ⟨rfl, rfl⟩), ?_⟩
  rintro _ _ ⟨rfl, rfl⟩
  repeat refine splitB.mk (fun h => by first | exact absurd (of_decide_eq_true h) (by omega) | exact absurd h (by simp)) (fun _ => ?_)
  refine ⟨fun res h' => res = .int .i64 ((1 + n : Nat) : Int) ∧ h' = [rx n x, ru n x, rxm n, ru n x, rx n x], ((markIntS_ok n 0 hn 1 (by omega) x).over [2] [rx n x, ru n x, rx n x, ru n x, rx n x] rfl (by simp) (by simp) (by rintro (_ | j) o hj <;> cases hj <;> rfl) rfl).mono (by rintro _ _ ⟨_, _, ⟨rfl, rfl⟩, rfl, rfl⟩; exact ⟨rfl, rfl⟩), ?_⟩
  rintro _ _ ⟨rfl, rfl⟩
  repeat refine splitB.mk (fun h => by first | exact absurd (of_decide_eq_true h) (by omega) | exact absurd h (by simp)) (fun _ => ?_)
  refine ⟨fun res h' => res = .bool true ∧ h' = [rx n x, ru n x, rxm n, ru n x, rx n x], (eqB.snapL (args := [.own 3 0 0 (x 0).toNat, .own 1 0 0 (x 0).toNat]) [rx n x, ru n x, rxm n, ru n x, rx n x] ⟨.snap rfl rfl rfl (fun _ _ => rfl) (fun i hi => ⟨.int_eq (by simp [hi]), trivial⟩), .snap rfl rfl rfl (fun _ _ => rfl) (fun i hi => ⟨.int_eq (by simp [hi]), trivial⟩), trivial⟩ rfl (by rintro _ _ ⟨rfl, rfl⟩; exact ⟨rfl, by simp⟩)).mono (by rintro _ _ ⟨_, _, ⟨rfl, rfl⟩, rfl, rfl⟩; exact ⟨rfl, rfl⟩), ?_⟩
  rintro _ _ ⟨rfl, rfl⟩
  repeat refine splitB.mk (fun h => by first | exact absurd (of_decide_eq_true h) (by omega) | exact absurd h (by simp)) (fun _ => ?_)
  refine ⟨fun res h' => res = .int .i64 ((1 + (x 0).toNat : Nat) : Int) ∧ h' = [rx n x, ru n x, rxm n, rum n x, rx n x], ((markByteN (x 0).toNat (6 * (n - 1)) 0 hmn hm 1 (by omega) (ubyte x)).over [3] [rx n x, ru n x, rxm n, ru n x, rx n x] rfl (by simp) (by simp) (by rintro (_ | j) o hj <;> cases hj <;> rfl) rfl).mono (by rintro _ _ ⟨_, _, ⟨rfl, rfl⟩, rfl, rfl⟩; exact ⟨rfl, rfl⟩), ?_⟩
  rintro _ _ ⟨rfl, rfl⟩
  refine ⟨fun res h' => res = .int .i64 ((1 + (x 0).toNat : Nat) : Int) ∧ h' = [rx n x, ru n x, rxm n, rum n x, rx n x], (heldM.snapL (args := [.own 3 0 0 (x 0).toNat, .int .i64 1]) [rx n x, ru n x, rxm n, rum n x, rx n x] ⟨.snap rfl rfl rfl (fun _ _ => rfl) (fun i hi => ⟨.int_eq (by simp [hi]), trivial⟩), .int _ _, trivial⟩ rfl (by rintro _ _ ⟨rfl, rfl⟩; exact ⟨rfl, by simp⟩)).mono (by rintro _ _ ⟨_, _, ⟨rfl, rfl⟩, rfl, rfl⟩; exact ⟨rfl, rfl⟩), ?_⟩
  rintro _ _ ⟨rfl, rfl⟩
  repeat refine splitB.mk (fun h => by first | exact absurd (of_decide_eq_true h) (by omega) | exact absurd h (by simp)) (fun _ => ?_)
  refine ⟨fun res h' => res = .own 5 0 0 n ∧ h' = [rx n x, ru n x, rxm n, rum n x, rx n x, rx n x], ((toIntS_ok n hn x).frame [rx n x, ru n x, rxm n, rum n x, rx n x] rfl).mono (by rintro _ _ ⟨_, _, ⟨rfl, rfl⟩, rfl, rfl⟩; exact ⟨rfl, rfl⟩), ?_⟩
  rintro _ _ ⟨rfl, rfl⟩
  refine ⟨fun res h' => res = .tup [.own 6 0 0 (x 0).toNat, .bool true] ∧ h' = [rx n x, ru n x, rxm n, rum n x, rx n x, rx n x, ru n x], (unI.snapL (args := [.own 5 0 0 n]) [rx n x, ru n x, rxm n, rum n x, rx n x, rx n x] ⟨.snap rfl rfl rfl (fun _ _ => rfl) (fun i hi => ⟨.int_eq (by simp [hi]), trivial⟩), trivial⟩ rfl (by rintro _ _ ⟨rfl, rfl⟩; exact ⟨rfl, by simp [flatO, flat1]⟩)).mono (by rintro _ _ ⟨_, _, ⟨rfl, rfl⟩, rfl, rfl⟩; exact ⟨rfl, rfl⟩), ?_⟩
  rintro _ _ ⟨rfl, rfl⟩
  refine ⟨fun res h' => res = .bool true ∧ h' = [rx n x, ru n x, rxm n, rum n x, rx n x, rx n x, ru n x], (eqB.snapL (args := [.own 6 0 0 (x 0).toNat, .own 1 0 0 (x 0).toNat]) [rx n x, ru n x, rxm n, rum n x, rx n x, rx n x, ru n x] ⟨.snap rfl rfl rfl (fun _ _ => rfl) (fun i hi => ⟨.int_eq (by simp [hi]), trivial⟩), .snap rfl rfl rfl (fun _ _ => rfl) (fun i hi => ⟨.int_eq (by simp [hi]), trivial⟩), trivial⟩ rfl (by rintro _ _ ⟨rfl, rfl⟩; exact ⟨rfl, by simp⟩)).mono (by rintro _ _ ⟨_, _, ⟨rfl, rfl⟩, rfl, rfl⟩; exact ⟨rfl, rfl⟩), ?_⟩
  rintro _ _ ⟨rfl, rfl⟩
  repeat refine splitB.mk (fun h => by first | exact absurd (of_decide_eq_true h) (by omega) | exact absurd h (by simp)) (fun _ => ?_)
  refine ⟨fun res h' => res = .int .i64 ((1 + (x 0).toNat : Nat) : Int) ∧ h' = [rx n x, ru n x, rxm n, rum n x, rx n x, rx n x, ru n x], (heldM.snapL (args := [.own 3 0 0 (x 0).toNat, .int .i64 1]) [rx n x, ru n x, rxm n, rum n x, rx n x, rx n x, ru n x] ⟨.snap rfl rfl rfl (fun _ _ => rfl) (fun i hi => ⟨.int_eq (by simp [hi]), trivial⟩), .int _ _, trivial⟩ rfl (by rintro _ _ ⟨rfl, rfl⟩; exact ⟨rfl, by simp⟩)).mono (by rintro _ _ ⟨_, _, ⟨rfl, rfl⟩, rfl, rfl⟩; exact ⟨rfl, rfl⟩), ?_⟩
  rintro _ _ ⟨rfl, rfl⟩
  repeat refine splitB.mk (fun h => by first | exact absurd (of_decide_eq_true h) (by omega) | exact absurd h (by simp)) (fun _ => ?_)
  exact ⟨[], .bool true, [], by simp, Nat.zero_le _, .bool _, trivial, rfl⟩

theorem lawUnpack_bad (n : Nat) (hn : n ≤ 1048576) (x : Nat → Int) (hg : ¬ goodImg n x) : ACall Try.prog 4 [.slc 1 n (ints .i64 x)] [] (fun res _ => res = .bool true) := by
  have eqI := eqIntS_ok n n rfl (by omega) x x (fun _ _ => rfl)
  have eqB := eqByteS_ok 0 0 rfl (by omega) (fun _ => 0) (fun _ => 0) (fun _ _ => rfl)
  have held0 := heldByteS_ok 0 (by omega) 1 (by omega)
  have unS : ACall Try.prog 14 [.slc 1 n (ints .i64 x)] [] (fun res h => res = .tup [.own 0 0 0 0, .bool false] ∧ h = [re8]) :=
    (unpackS_ok n hn x).mono fun res h hr => by rcases hr with ⟨h0, _⟩ | ⟨_, h1, h2⟩; exact absurd h0 hg; exact ⟨h1, h2⟩
  have unI : ACall Try.prog 16 [.slc 1 n (ints .i64 x)] [] (fun res h => res = .tup [.nils, .bool false] ∧ h = []) :=
    (unpackI_ok n hn x).mono fun res h hr => by rcases hr with ⟨h0, _⟩ | ⟨_, h1, h2⟩; exact absurd h0 hg; exact ⟨h1, h2⟩
  refine ACall.of_vc tab_ok mixed Try.func4 rfl (by kernel_rfl) _ _ _ rfl (by kernel_rfl) ?_
  refine splitB.mk (fun h => absurd (of_decide_eq_true h) (by omega)) (fun _ => ?_)
  refine ⟨_, toIntS_ok n hn x, ?_⟩
  rintro _ _ ⟨rfl, rfl⟩
  refine ⟨fun res h' => res = .tup [.own 1 0 0 0, .bool false] ∧ h' = [rx n x, re8], (unS.snapL (args := [.own 0 0 0 n]) [rx n x] ⟨.snap rfl rfl rfl (fun _ _ => rfl) (fun i hi => ⟨.int_eq (by simp [hi]), trivial⟩), trivial⟩ rfl (by rintro _ _ ⟨rfl, rfl⟩; exact ⟨rfl, by simp [flatO, flat1]⟩)).mono (by rintro _ _ ⟨_, _, ⟨rfl, rfl⟩, rfl, rfl⟩; exact ⟨rfl, rfl⟩), ?_⟩
  rintro _ _ ⟨rfl, rfl⟩
  refine ⟨fun res h' => res = .own 2 0 0 n ∧ h' = [rx n x, re8, rx n x], ((toIntS_ok n hn x).frame [rx n x, re8] rfl).mono (by rintro _ _ ⟨_, _, ⟨rfl, rfl⟩, rfl, rfl⟩; exact ⟨rfl, rfl⟩), ?_⟩
  rintro _ _ ⟨rfl, rfl⟩
  refine ⟨fun res h' => res = .tup [.nils, .bool false] ∧ h' = [rx n x, re8, rx n x], (unI.snapL (args := [.own 2 0 0 n]) [rx n x, re8, rx n x] ⟨.snap rfl rfl rfl (fun _ _ => rfl) (fun i hi => ⟨.int_eq (by simp [hi]), trivial⟩), trivial⟩ rfl (by rintro _ _ ⟨rfl, rfl⟩; exact ⟨rfl, by simp⟩)).mono (by rintro _ _ ⟨_, _, ⟨rfl, rfl⟩, rfl, rfl⟩; exact ⟨rfl, rfl⟩), ?_⟩
  rintro _ _ ⟨rfl, rfl⟩
  refine ⟨fun res h' => res = .bool true ∧ h' = [rx n x, re8, rx n x], (eqB.snapL (args := [.nils, .own 1 0 0 0]) [rx n x, re8, rx n x] ⟨.nils0 _ _, .snap rfl rfl rfl (fun _ _ => rfl) (fun i hi => absurd hi (Nat.not_lt_zero _)), trivial⟩ rfl (by rintro _ _ ⟨rfl, rfl⟩; exact ⟨rfl, by simp⟩)).mono (by rintro _ _ ⟨_, _, ⟨rfl, rfl⟩, rfl, rfl⟩; exact ⟨rfl, rfl⟩), ?_⟩
  rintro _ _ ⟨rfl, rfl⟩
  repeat refine splitB.mk (fun h => by first | exact absurd (of_decide_eq_true h) (by omega) | exact absurd h (by simp)) (fun _ => ?_)
  refine ⟨fun res h' => res = .own 3 0 0 n ∧ h' = [rx n x, re8, rx n x, rx n x], ((toIntS_ok n hn x).frame [rx n x, re8, rx n x] rfl).mono (by rintro _ _ ⟨_, _, ⟨rfl, rfl⟩, rfl, rfl⟩; exact ⟨rfl, rfl⟩), ?_⟩
  rintro _ _ ⟨rfl, rfl⟩
  refine ⟨fun res h' => res = .bool true ∧ h' = [rx n x, re8, rx n x, rx n x], (eqI.snapL (args := [.own 2 0 0 n, .own 3 0 0 n]) [rx n x, re8, rx n x, rx n x] ⟨.snap rfl rfl rfl (fun _ _ => rfl) (fun i hi => ⟨.int_eq (by simp [hi]), trivial⟩), .snap rfl rfl rfl (fun _ _ => rfl) (fun i hi => ⟨.int_eq (by simp [hi]), trivial⟩), trivial⟩ rfl (by rintro _ _ ⟨rfl, rfl⟩; exact ⟨rfl, by simp⟩)).mono (by rintro _ _ ⟨_, _, ⟨rfl, rfl⟩, rfl, rfl⟩; exact ⟨rfl, rfl⟩), ?_⟩
  rintro _ _ ⟨rfl, rfl⟩
  repeat refine splitB.mk (fun h => by first | exact absurd (of_decide_eq_true h) (by omega) | exact absurd h (by simp)) (fun _ => ?_)
  refine ⟨fun res h' => res = .int .i64 ((1 + n : Nat) : Int) ∧ h' = [rx n x, re8, rxm n, rx n x], ((markIntS_ok n 0 hn 1 (by omega) x).over [2] [rx n x, re8, rx n x, rx n x] rfl (by simp) (by simp) (by rintro (_ | j) o hj <;> cases hj <;> rfl) rfl).mono (by rintro _ _ ⟨_, _, ⟨rfl, rfl⟩, rfl, rfl⟩; exact ⟨rfl, rfl⟩), ?_⟩
  rintro _ _ ⟨rfl, rfl⟩
  repeat refine splitB.mk (fun h => by first | exact absurd (of_decide_eq_true h) (by omega) | exact absurd h (by simp)) (fun _ => ?_)
  refine ⟨fun res h' => res = .bool true ∧ h' = [rx n x, re8, rxm n, rx n x], (eqB.snapL (args := [.nils, .own 1 0 0 0]) [rx n x, re8, rxm n, rx n x] ⟨.nils0 _ _, .snap rfl rfl rfl (fun _ _ => rfl) (fun i hi => absurd hi (Nat.not_lt_zero _)), trivial⟩ rfl (by rintro _ _ ⟨rfl, rfl⟩; exact ⟨rfl, by simp⟩)).mono (by rintro _ _ ⟨_, _, ⟨rfl, rfl⟩, rfl, rfl⟩; exact ⟨rfl, rfl⟩), ?_⟩
  rintro _ _ ⟨rfl, rfl⟩
  repeat refine splitB.mk (fun h => by first | exact absurd (of_decide_eq_true h) (by omega) | exact absurd h (by simp)) (fun _ => ?_)
  refine ⟨fun res h' => res = .int .i64 1 ∧ h' = [rx n x, re8, rxm n, rx n x], (markByte0.frame [rx n x, re8, rxm n, rx n x] rfl).mono (by rintro _ _ ⟨_, _, ⟨rfl, rfl⟩, rfl, rfl⟩; exact ⟨rfl, rfl⟩), ?_⟩
  rintro _ _ ⟨rfl, rfl⟩
  refine ⟨fun res h' => res = .int .i64 ((1 + 0 : Nat) : Int) ∧ h' = [rx n x, re8, rxm n, rx n x], (held0.snapL (args := [.nils, .int .i64 1]) [rx n x, re8, rxm n, rx n x] ⟨.nils0 _ _, .int _ _, trivial⟩ rfl (by rintro _ _ ⟨rfl, rfl⟩; exact ⟨rfl, by simp⟩)).mono (by rintro _ _ ⟨_, _, ⟨rfl, rfl⟩, rfl, rfl⟩; exact ⟨rfl, rfl⟩), ?_⟩
  rintro _ _ ⟨rfl, rfl⟩
  repeat refine splitB.mk (fun h => by first | exact absurd (of_decide_eq_true h) (by omega) | exact absurd h (by simp)) (fun _ => ?_)
  refine ⟨fun res h' => res = .own 4 0 0 n ∧ h' = [rx n x, re8, rxm n, rx n x, rx n x], ((toIntS_ok n hn x).frame [rx n x, re8, rxm n, rx n x] rfl).mono (by rintro _ _ ⟨_, _, ⟨rfl, rfl⟩, rfl, rfl⟩; exact ⟨rfl, rfl⟩), ?_⟩
  rintro _ _ ⟨rfl, rfl⟩
  refine ⟨fun res h' => res = .tup [.nils, .bool false] ∧ h' = [rx n x, re8, rxm n, rx n x, rx n x], (unI.snapL (args := [.own 4 0 0 n]) [rx n x, re8, rxm n, rx n x, rx n x] ⟨.snap rfl rfl rfl (fun _ _ => rfl) (fun i hi => ⟨.int_eq (by simp [hi]), trivial⟩), trivial⟩ rfl (by rintro _ _ ⟨rfl, rfl⟩; exact ⟨rfl, by simp⟩)).mono (by rintro _ _ ⟨_, _, ⟨rfl, rfl⟩, rfl, rfl⟩; exact ⟨rfl, rfl⟩), ?_⟩
  rintro _ _ ⟨rfl, rfl⟩
  refine ⟨fun res h' => res = .bool true ∧ h' = [rx n x, re8, rxm n, rx n x, rx n x], (eqB.snapL (args := [.nils, .own 1 0 0 0]) [rx n x, re8, rxm n, rx n x, rx n x] ⟨.nils0 _ _, .snap rfl rfl rfl (fun _ _ => rfl) (fun i hi => absurd hi (Nat.not_lt_zero _)), trivial⟩ rfl (by rintro _ _ ⟨rfl, rfl⟩; exact ⟨rfl, by simp⟩)).mono (by rintro _ _ ⟨_, _, ⟨rfl, rfl⟩, rfl, rfl⟩; exact ⟨rfl, rfl⟩), ?_⟩
  rintro _ _ ⟨rfl, rfl⟩
  repeat refine splitB.mk (fun h => by first | exact absurd (of_decide_eq_true h) (by omega) | exact absurd h (by simp)) (fun _ => ?_)
  refine ⟨fun res h' => res = .int .i64 ((1 + 0 : Nat) : Int) ∧ h' = [rx n x, re8, rxm n, rx n x, rx n x], (held0.snapL (args := [.nils, .int .i64 1]) [rx n x, re8, rxm n, rx n x, rx n x] ⟨.nils0 _ _, .int _ _, trivial⟩ rfl (by rintro _ _ ⟨rfl, rfl⟩; exact ⟨rfl, by simp⟩)).mono (by rintro _ _ ⟨_, _, ⟨rfl, rfl⟩, rfl, rfl⟩; exact ⟨rfl, rfl⟩), ?_⟩
  rintro _ _ ⟨rfl, rfl⟩
  repeat refine splitB.mk (fun h => by first | exact absurd (of_decide_eq_true h) (by omega) | exact absurd h (by simp)) (fun _ => ?_)
  exact ⟨[], .bool true, [], by simp, Nat.zero_le _, .bool _, trivial, rfl⟩

theorem lawUnpack (n : Nat) (x : Nat → Int) : ACall Try.prog 4 [.slc 1 n (ints .i64 x)] [] (fun res _ => res = .bool true) := by
  by_cases h1 : 1048576 < n
  · refine ACall.of_vc tab_ok mixed Try.func4 rfl (by kernel_rfl) _ _ _ rfl (by kernel_rfl) ?_
    refine splitB.mk (fun _ => ?_) (fun h => absurd (of_decide_eq_false h) (by omega))
    exact ⟨[], .bool true, [], by simp, Nat.zero_le _, .bool _, trivial, rfl⟩
  · by_cases h2 : goodImg n x
    · exact lawUnpack_good n (by omega) x h2
    · exact lawUnpack_bad n (by omega) x h2

end Go.Am
