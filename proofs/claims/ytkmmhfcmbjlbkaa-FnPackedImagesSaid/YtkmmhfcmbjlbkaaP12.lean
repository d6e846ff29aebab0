/- The law on packed images. -/
import Derived.Test.YtkmmhfcmbjlbkaaP11
set_option linter.unusedVariables false
set_option linter.unusedSimpArgs false
namespace Go.Am
open Go Go.RowKit Go.Proofs

theorem ubyte_bd (x : Nat → Int) (i : Nat) : 0 ≤ ubyte x i ∧ ubyte x i ≤ 255 := by
  unfold ubyte
  omega

theorem big_ok (n : Nat) (f : Nat → List PV) : ACall Try.prog 18 [.slc 1 n f] [] (fun res h => res = .bool (decide ((n : Int) > 1048576)) ∧ h = []) := by
  refine ACall.of_vc tab_ok mixed Try.func18 rfl (by kernel_rfl) _ _ _ rfl (by kernel_rfl) ?_
  exact ⟨[], _, [], by simp, Nat.zero_le _, .bool _, trivial, rfl, rfl⟩

theorem lawPacked (n : Nat) (z : Nat → Int) : ACall Try.prog 5 [.slc 1 n (ints .u8 z)] [] (fun res _ => res = .bool true) := by
  refine ACall.of_vc tab_ok mixed Try.func5 rfl (by kernel_rfl) _ _ _ rfl (by kernel_rfl) ?_
  refine ⟨_, big_ok n _, ?_⟩
  rintro _ _ ⟨rfl, rfl⟩
  refine splitB.mk (fun _ => ?_) (fun h => ?_)
  · exact ⟨[], .bool true, [], by simp, Nat.zero_le _, .bool _, trivial, rfl⟩
  · have hn : n ≤ 1048576 := by have h := of_decide_eq_false h; omega
    refine ⟨_, drawPack_ok n hn z, ?_⟩
    rintro _ _ ⟨m, y, hm, hy, rfl, rfl⟩
    by_cases hs : m ≤ 24000
    · have hw : words m + 1 ≤ 4001 := by unfold words; omega
      have unI : ACall Try.prog 16 [.slc 1 (words m + 1) (ints .i64 (packed y m))] [] (fun res h => res = .tup [.own 0 0 0 m, .bool true] ∧ h = [.row 0 1 (6 * words m) 5 (ints .u8 (ubyte (packed y m)))]) := (unpackI_ok (words m + 1) (by omega) (packed y m)).mono fun res h hr => by rcases hr with ⟨_, h1, h2⟩ | ⟨h0, _⟩; exact ⟨h1, h2⟩; exact absurd (good_packed m hs y hy) h0
      have sB := sameBytes_ok m m rfl y (ubyte (packed y m)) (fun i hi => by rw [unpack_pack m y hy]; simp [at', hi])
      refine ⟨fun res h' => res = .tup [.own 1 0 0 (words m + 1), .bool true] ∧ h' = [.row 0 1 m 5 (ints .u8 y), .row 0 1 (words m + 1) 3 (ints .i64 (packed y m))], ((packI_ok m hs y hy).snapL (args := [.own 0 0 0 m]) [.row 0 1 m 5 (ints .u8 y)] ⟨.snap rfl rfl rfl (fun _ _ => rfl) (fun i hi => ⟨.int_eq (by simp [hi]), trivial⟩), trivial⟩ rfl (by rintro _ _ ⟨rfl, rfl⟩; exact ⟨rfl, by simp [flatO, flat1]⟩)).mono (by rintro _ _ ⟨_, _, ⟨rfl, rfl⟩, rfl, rfl⟩; exact ⟨rfl, rfl⟩), ?_⟩
      rintro _ _ ⟨rfl, rfl⟩
      refine ⟨fun res h' => res = .tup [.own 2 0 0 m, .bool true] ∧ h' = [.row 0 1 m 5 (ints .u8 y), .row 0 1 (words m + 1) 3 (ints .i64 (packed y m)), .row 0 1 (6 * words m) 5 (ints .u8 (ubyte (packed y m)))], (unI.snapL (args := [.own 1 0 0 (words m + 1)]) [.row 0 1 m 5 (ints .u8 y), .row 0 1 (words m + 1) 3 (ints .i64 (packed y m))] ⟨.snap rfl rfl rfl (fun _ _ => rfl) (fun i hi => ⟨.int_eq (by simp [hi]), trivial⟩), trivial⟩ rfl (by rintro _ _ ⟨rfl, rfl⟩; exact ⟨rfl, by simp [flatO, flat1]⟩)).mono (by rintro _ _ ⟨_, _, ⟨rfl, rfl⟩, rfl, rfl⟩; exact ⟨rfl, rfl⟩), ?_⟩
      rintro _ _ ⟨rfl, rfl⟩
      refine ⟨rfl, ?_⟩
      repeat first | refine splitB.mk (fun h => absurd h (by decide)) (fun _ => ?_) | refine splitB.mk (fun _ => ?_) (fun h => absurd h (by decide)) | refine splitB.mk (fun h => absurd h (by simp; omega)) (fun _ => ?_)
      refine ⟨fun res h' => res = .bool true ∧ h' = [.row 0 1 m 5 (ints .u8 y), .row 0 1 (words m + 1) 3 (ints .i64 (packed y m)), .row 0 1 (6 * words m) 5 (ints .u8 (ubyte (packed y m)))], (sB.snapL (args := [.own 0 0 0 m, .own 2 0 0 m]) [.row 0 1 m 5 (ints .u8 y), .row 0 1 (words m + 1) 3 (ints .i64 (packed y m)), .row 0 1 (6 * words m) 5 (ints .u8 (ubyte (packed y m)))] ⟨.snap rfl rfl rfl (fun _ _ => rfl) (fun i hi => ⟨.int_eq (by simp [hi]), trivial⟩), .snap rfl rfl rfl (fun _ _ => rfl) (fun i hi => ⟨.int_eq (by simp [hi]), trivial⟩), trivial⟩ rfl (by rintro _ _ ⟨rfl, rfl⟩; exact ⟨rfl, by simp⟩)).mono (by rintro _ _ ⟨_, _, ⟨rfl, rfl⟩, rfl, rfl⟩; exact ⟨rfl, rfl⟩), ?_⟩
      rintro _ _ ⟨rfl, rfl⟩
      repeat first | refine splitB.mk (fun h => absurd h (by decide)) (fun _ => ?_) | refine splitB.mk (fun _ => ?_) (fun h => absurd h (by decide)) | refine splitB.mk (fun h => absurd h (by simp; omega)) (fun _ => ?_)
      refine ⟨rfl, ?_⟩
      repeat first | refine splitB.mk (fun h => absurd h (by decide)) (fun _ => ?_) | refine splitB.mk (fun _ => ?_) (fun h => absurd h (by decide)) | refine splitB.mk (fun h => absurd h (by simp; omega)) (fun _ => ?_)
      refine ⟨fun res h' => ∃ (m2 N : Nat) (x : Nat → Int), m2 ≤ N ∧ m2 ≤ 1048576 ∧ res = .own 3 0 0 m2 ∧ h' = [.row 0 1 m 5 (ints .u8 y), .row 0 1 (words m + 1) 3 (ints .i64 (packed y m)), .row 0 1 (6 * words m) 5 (ints .u8 (ubyte (packed y m))), .row 0 1 N 3 (ints .i64 x)], ((drawUnpack_ok n hn z).frame [.row 0 1 m 5 (ints .u8 y), .row 0 1 (words m + 1) 3 (ints .i64 (packed y m)), .row 0 1 (6 * words m) 5 (ints .u8 (ubyte (packed y m)))] rfl).mono (by rintro _ _ ⟨_, _, ⟨m2, N, x, h1, h2, rfl, rfl⟩, rfl, rfl⟩; exact ⟨m2, N, x, h1, h2, rfl, rfl⟩), ?_⟩
      rintro _ _ ⟨m2, N, x, hN, hm2, rfl, rfl⟩
      by_cases hg : goodImg m2 x
      · have hx : (x 0).toNat ≤ 24000 := by have h1 := hg.1.2.1; have h2 := hg.1.2.2.1; omega
        obtain ⟨hw, hp⟩ := pack_unpack m2 x hg
        have unI : ACall Try.prog 16 [.slc 1 m2 (ints .i64 x)] [] (fun res h => res = .tup [.own 0 0 0 (x 0).toNat, .bool true] ∧ h = [.row 0 1 (6 * (m2 - 1)) 5 (ints .u8 (ubyte x))]) := (unpackI_ok m2 hm2 x).mono fun res h hr => by rcases hr with ⟨_, h1, h2⟩ | ⟨h0, _⟩; exact ⟨h1, h2⟩; exact absurd hg h0
        have sI := sameInts_ok m2 (words (x 0).toNat + 1) hw.symm (by omega) x (packed (ubyte x) (x 0).toNat) (fun i hi => (hp i hi).symm)
        refine ⟨fun res h' => res = .tup [.own 4 0 0 (x 0).toNat, .bool true] ∧ h' = [.row 0 1 m 5 (ints .u8 y), .row 0 1 (words m + 1) 3 (ints .i64 (packed y m)), .row 0 1 (6 * words m) 5 (ints .u8 (ubyte (packed y m))), .row 0 1 N 3 (ints .i64 x), .row 0 1 (6 * (m2 - 1)) 5 (ints .u8 (ubyte x))], (unI.snapL (args := [.own 3 0 0 m2]) [.row 0 1 m 5 (ints .u8 y), .row 0 1 (words m + 1) 3 (ints .i64 (packed y m)), .row 0 1 (6 * words m) 5 (ints .u8 (ubyte (packed y m))), .row 0 1 N 3 (ints .i64 x)] ⟨.snap rfl rfl rfl (fun _ _ => rfl) (fun i hi => ⟨.int_eq (by simp [hi]), trivial⟩), trivial⟩ rfl (by rintro _ _ ⟨rfl, rfl⟩; exact ⟨rfl, by simp [flatO, flat1]⟩)).mono (by rintro _ _ ⟨_, _, ⟨rfl, rfl⟩, rfl, rfl⟩; exact ⟨rfl, rfl⟩), ?_⟩
        rintro _ _ ⟨rfl, rfl⟩
        refine ⟨fun res h' => res = .tup [.own 5 0 0 (words (x 0).toNat + 1), .bool true] ∧ h' = [.row 0 1 m 5 (ints .u8 y), .row 0 1 (words m + 1) 3 (ints .i64 (packed y m)), .row 0 1 (6 * words m) 5 (ints .u8 (ubyte (packed y m))), .row 0 1 N 3 (ints .i64 x), .row 0 1 (6 * (m2 - 1)) 5 (ints .u8 (ubyte x)), .row 0 1 (words (x 0).toNat + 1) 3 (ints .i64 (packed (ubyte x) (x 0).toNat))], ((packI_ok (x 0).toNat hx (ubyte x) (ubyte_bd x)).snapL (args := [.own 4 0 0 (x 0).toNat]) [.row 0 1 m 5 (ints .u8 y), .row 0 1 (words m + 1) 3 (ints .i64 (packed y m)), .row 0 1 (6 * words m) 5 (ints .u8 (ubyte (packed y m))), .row 0 1 N 3 (ints .i64 x), .row 0 1 (6 * (m2 - 1)) 5 (ints .u8 (ubyte x))] ⟨.snap rfl rfl rfl (fun _ _ => rfl) (fun i hi => ⟨.int_eq (by simp [hi]), trivial⟩), trivial⟩ rfl (by rintro _ _ ⟨rfl, rfl⟩; exact ⟨rfl, by simp [flatO, flat1]⟩)).mono (by rintro _ _ ⟨_, _, ⟨rfl, rfl⟩, rfl, rfl⟩; exact ⟨rfl, rfl⟩), ?_⟩
        rintro _ _ ⟨rfl, rfl⟩
        repeat first | refine splitB.mk (fun h => absurd h (by decide)) (fun _ => ?_) | refine splitB.mk (fun _ => ?_) (fun h => absurd h (by decide)) | refine splitB.mk (fun h => absurd h (by simp; omega)) (fun _ => ?_)
        refine ⟨fun res h' => res = .bool true ∧ h' = [.row 0 1 m 5 (ints .u8 y), .row 0 1 (words m + 1) 3 (ints .i64 (packed y m)), .row 0 1 (6 * words m) 5 (ints .u8 (ubyte (packed y m))), .row 0 1 N 3 (ints .i64 x), .row 0 1 (6 * (m2 - 1)) 5 (ints .u8 (ubyte x)), .row 0 1 (words (x 0).toNat + 1) 3 (ints .i64 (packed (ubyte x) (x 0).toNat))], (sI.snapL (args := [.own 3 0 0 m2, .own 5 0 0 (words (x 0).toNat + 1)]) [.row 0 1 m 5 (ints .u8 y), .row 0 1 (words m + 1) 3 (ints .i64 (packed y m)), .row 0 1 (6 * words m) 5 (ints .u8 (ubyte (packed y m))), .row 0 1 N 3 (ints .i64 x), .row 0 1 (6 * (m2 - 1)) 5 (ints .u8 (ubyte x)), .row 0 1 (words (x 0).toNat + 1) 3 (ints .i64 (packed (ubyte x) (x 0).toNat))] ⟨.snap rfl rfl rfl (fun _ _ => rfl) (fun i hi => ⟨.int_eq (by simp [hi]), trivial⟩), .snap rfl rfl rfl (fun _ _ => rfl) (fun i hi => ⟨.int_eq (by simp [hi]), trivial⟩), trivial⟩ rfl (by rintro _ _ ⟨rfl, rfl⟩; exact ⟨rfl, by simp⟩)).mono (by rintro _ _ ⟨_, _, ⟨rfl, rfl⟩, rfl, rfl⟩; exact ⟨rfl, rfl⟩), ?_⟩
        rintro _ _ ⟨rfl, rfl⟩
        repeat first | refine splitB.mk (fun h => absurd h (by decide)) (fun _ => ?_) | refine splitB.mk (fun _ => ?_) (fun h => absurd h (by decide)) | refine splitB.mk (fun h => absurd h (by simp; omega)) (fun _ => ?_)
        exact ⟨[], .bool true, [], by simp, Nat.zero_le _, .bool _, trivial, rfl⟩
      · have unI : ACall Try.prog 16 [.slc 1 m2 (ints .i64 x)] [] (fun res h => res = .tup [.nils, .bool false] ∧ h = []) := (unpackI_ok m2 hm2 x).mono fun res h hr => by rcases hr with ⟨h0, _⟩ | ⟨_, h1, h2⟩; exact absurd h0 hg; exact ⟨h1, h2⟩
        refine ⟨fun res h' => res = .tup [.nils, .bool false] ∧ h' = [.row 0 1 m 5 (ints .u8 y), .row 0 1 (words m + 1) 3 (ints .i64 (packed y m)), .row 0 1 (6 * words m) 5 (ints .u8 (ubyte (packed y m))), .row 0 1 N 3 (ints .i64 x)], (unI.snapL (args := [.own 3 0 0 m2]) [.row 0 1 m 5 (ints .u8 y), .row 0 1 (words m + 1) 3 (ints .i64 (packed y m)), .row 0 1 (6 * words m) 5 (ints .u8 (ubyte (packed y m))), .row 0 1 N 3 (ints .i64 x)] ⟨.snap rfl rfl rfl (fun _ _ => rfl) (fun i hi => ⟨.int_eq (by simp [hi]), trivial⟩), trivial⟩ rfl (by rintro _ _ ⟨rfl, rfl⟩; exact ⟨rfl, by simp⟩)).mono (by rintro _ _ ⟨_, _, ⟨rfl, rfl⟩, rfl, rfl⟩; exact ⟨rfl, rfl⟩), ?_⟩
        rintro _ _ ⟨rfl, rfl⟩
        refine ⟨fun res h' => res = .tup [.own 4 0 0 (words 0 + 1), .bool true] ∧ h' = [.row 0 1 m 5 (ints .u8 y), .row 0 1 (words m + 1) 3 (ints .i64 (packed y m)), .row 0 1 (6 * words m) 5 (ints .u8 (ubyte (packed y m))), .row 0 1 N 3 (ints .i64 x), .row 0 1 (words 0 + 1) 3 (ints .i64 (packed (fun _ => 0) 0))], ((packI_ok 0 (by omega) (fun _ => 0) (fun _ => ⟨by simp, by simp⟩)).snapL (args := [.nils]) [.row 0 1 m 5 (ints .u8 y), .row 0 1 (words m + 1) 3 (ints .i64 (packed y m)), .row 0 1 (6 * words m) 5 (ints .u8 (ubyte (packed y m))), .row 0 1 N 3 (ints .i64 x)] ⟨.nils0 _ _, trivial⟩ rfl (by rintro _ _ ⟨rfl, rfl⟩; exact ⟨rfl, by simp [flatO, flat1]⟩)).mono (by rintro _ _ ⟨_, _, ⟨rfl, rfl⟩, rfl, rfl⟩; exact ⟨rfl, rfl⟩), ?_⟩
        rintro _ _ ⟨rfl, rfl⟩
        repeat first | refine splitB.mk (fun h => absurd h (by decide)) (fun _ => ?_) | refine splitB.mk (fun _ => ?_) (fun h => absurd h (by decide)) | refine splitB.mk (fun h => absurd h (by simp; omega)) (fun _ => ?_)
        exact ⟨[], .bool true, [], by simp, Nat.zero_le _, .bool _, trivial, rfl⟩

    · have bad0 : ¬ goodImg 0 (fun _ => (0 : Int)) := fun hg => absurd hg.1.1 (Nat.lt_irrefl _)
      have unI : ACall Try.prog 16 [.slc 1 0 (ints .i64 fun _ => 0)] [] (fun res h => res = .tup [.nils, .bool false] ∧ h = []) := (unpackI_ok 0 (by omega) (fun _ => 0)).mono fun res h hr => by rcases hr with ⟨h0, _⟩ | ⟨_, h1, h2⟩; exact absurd h0 bad0; exact ⟨h1, h2⟩
      refine ⟨fun res h' => res = .tup [.nils, .bool false] ∧ h' = [.row 0 1 m 5 (ints .u8 y)], ((packI_big m (by omega) (ints .u8 y)).snapL (args := [.own 0 0 0 m]) [.row 0 1 m 5 (ints .u8 y)] ⟨.snap rfl rfl rfl (fun _ _ => rfl) (fun i hi => ⟨.int_eq (by simp [hi]), trivial⟩), trivial⟩ rfl (by rintro _ _ ⟨rfl, rfl⟩; exact ⟨rfl, by simp⟩)).mono (by rintro _ _ ⟨_, _, ⟨rfl, rfl⟩, rfl, rfl⟩; exact ⟨rfl, rfl⟩), ?_⟩
      rintro _ _ ⟨rfl, rfl⟩
      refine ⟨fun res h' => res = .tup [.nils, .bool false] ∧ h' = [.row 0 1 m 5 (ints .u8 y)], (unI.snapL (args := [.nils]) [.row 0 1 m 5 (ints .u8 y)] ⟨.nils0 _ _, trivial⟩ rfl (by rintro _ _ ⟨rfl, rfl⟩; exact ⟨rfl, by simp⟩)).mono (by rintro _ _ ⟨_, _, ⟨rfl, rfl⟩, rfl, rfl⟩; exact ⟨rfl, rfl⟩), ?_⟩
      rintro _ _ ⟨rfl, rfl⟩
      refine ⟨rfl, ?_⟩
      repeat first | refine splitB.mk (fun h => absurd h (by decide)) (fun _ => ?_) | refine splitB.mk (fun _ => ?_) (fun h => absurd h (by decide)) | refine splitB.mk (fun h => absurd h (by simp; omega)) (fun _ => ?_)
      refine ⟨fun res h' => ∃ (m2 N : Nat) (x : Nat → Int), m2 ≤ N ∧ m2 ≤ 1048576 ∧ res = .own 1 0 0 m2 ∧ h' = [.row 0 1 m 5 (ints .u8 y), .row 0 1 N 3 (ints .i64 x)], ((drawUnpack_ok n hn z).frame [.row 0 1 m 5 (ints .u8 y)] rfl).mono (by rintro _ _ ⟨_, _, ⟨m2, N, x, h1, h2, rfl, rfl⟩, rfl, rfl⟩; exact ⟨m2, N, x, h1, h2, rfl, rfl⟩), ?_⟩
      rintro _ _ ⟨m2, N, x, hN, hm2, rfl, rfl⟩
      by_cases hg : goodImg m2 x
      · have hx : (x 0).toNat ≤ 24000 := by have h1 := hg.1.2.1; have h2 := hg.1.2.2.1; omega
        obtain ⟨hw, hp⟩ := pack_unpack m2 x hg
        have unI : ACall Try.prog 16 [.slc 1 m2 (ints .i64 x)] [] (fun res h => res = .tup [.own 0 0 0 (x 0).toNat, .bool true] ∧ h = [.row 0 1 (6 * (m2 - 1)) 5 (ints .u8 (ubyte x))]) := (unpackI_ok m2 hm2 x).mono fun res h hr => by rcases hr with ⟨_, h1, h2⟩ | ⟨h0, _⟩; exact ⟨h1, h2⟩; exact absurd hg h0
        have sI := sameInts_ok m2 (words (x 0).toNat + 1) hw.symm (by omega) x (packed (ubyte x) (x 0).toNat) (fun i hi => (hp i hi).symm)
        refine ⟨fun res h' => res = .tup [.own 2 0 0 (x 0).toNat, .bool true] ∧ h' = [.row 0 1 m 5 (ints .u8 y), .row 0 1 N 3 (ints .i64 x), .row 0 1 (6 * (m2 - 1)) 5 (ints .u8 (ubyte x))], (unI.snapL (args := [.own 1 0 0 m2]) [.row 0 1 m 5 (ints .u8 y), .row 0 1 N 3 (ints .i64 x)] ⟨.snap rfl rfl rfl (fun _ _ => rfl) (fun i hi => ⟨.int_eq (by simp [hi]), trivial⟩), trivial⟩ rfl (by rintro _ _ ⟨rfl, rfl⟩; exact ⟨rfl, by simp [flatO, flat1]⟩)).mono (by rintro _ _ ⟨_, _, ⟨rfl, rfl⟩, rfl, rfl⟩; exact ⟨rfl, rfl⟩), ?_⟩
        rintro _ _ ⟨rfl, rfl⟩
        refine ⟨fun res h' => res = .tup [.own 3 0 0 (words (x 0).toNat + 1), .bool true] ∧ h' = [.row 0 1 m 5 (ints .u8 y), .row 0 1 N 3 (ints .i64 x), .row 0 1 (6 * (m2 - 1)) 5 (ints .u8 (ubyte x)), .row 0 1 (words (x 0).toNat + 1) 3 (ints .i64 (packed (ubyte x) (x 0).toNat))], ((packI_ok (x 0).toNat hx (ubyte x) (ubyte_bd x)).snapL (args := [.own 2 0 0 (x 0).toNat]) [.row 0 1 m 5 (ints .u8 y), .row 0 1 N 3 (ints .i64 x), .row 0 1 (6 * (m2 - 1)) 5 (ints .u8 (ubyte x))] ⟨.snap rfl rfl rfl (fun _ _ => rfl) (fun i hi => ⟨.int_eq (by simp [hi]), trivial⟩), trivial⟩ rfl (by rintro _ _ ⟨rfl, rfl⟩; exact ⟨rfl, by simp [flatO, flat1]⟩)).mono (by rintro _ _ ⟨_, _, ⟨rfl, rfl⟩, rfl, rfl⟩; exact ⟨rfl, rfl⟩), ?_⟩
        rintro _ _ ⟨rfl, rfl⟩
        repeat first | refine splitB.mk (fun h => absurd h (by decide)) (fun _ => ?_) | refine splitB.mk (fun _ => ?_) (fun h => absurd h (by decide)) | refine splitB.mk (fun h => absurd h (by simp; omega)) (fun _ => ?_)
        refine ⟨fun res h' => res = .bool true ∧ h' = [.row 0 1 m 5 (ints .u8 y), .row 0 1 N 3 (ints .i64 x), .row 0 1 (6 * (m2 - 1)) 5 (ints .u8 (ubyte x)), .row 0 1 (words (x 0).toNat + 1) 3 (ints .i64 (packed (ubyte x) (x 0).toNat))], (sI.snapL (args := [.own 1 0 0 m2, .own 3 0 0 (words (x 0).toNat + 1)]) [.row 0 1 m 5 (ints .u8 y), .row 0 1 N 3 (ints .i64 x), .row 0 1 (6 * (m2 - 1)) 5 (ints .u8 (ubyte x)), .row 0 1 (words (x 0).toNat + 1) 3 (ints .i64 (packed (ubyte x) (x 0).toNat))] ⟨.snap rfl rfl rfl (fun _ _ => rfl) (fun i hi => ⟨.int_eq (by simp [hi]), trivial⟩), .snap rfl rfl rfl (fun _ _ => rfl) (fun i hi => ⟨.int_eq (by simp [hi]), trivial⟩), trivial⟩ rfl (by rintro _ _ ⟨rfl, rfl⟩; exact ⟨rfl, by simp⟩)).mono (by rintro _ _ ⟨_, _, ⟨rfl, rfl⟩, rfl, rfl⟩; exact ⟨rfl, rfl⟩), ?_⟩
        rintro _ _ ⟨rfl, rfl⟩
        repeat first | refine splitB.mk (fun h => absurd h (by decide)) (fun _ => ?_) | refine splitB.mk (fun _ => ?_) (fun h => absurd h (by decide)) | refine splitB.mk (fun h => absurd h (by simp; omega)) (fun _ => ?_)
        exact ⟨[], .bool true, [], by simp, Nat.zero_le _, .bool _, trivial, rfl⟩
      · have unI : ACall Try.prog 16 [.slc 1 m2 (ints .i64 x)] [] (fun res h => res = .tup [.nils, .bool false] ∧ h = []) := (unpackI_ok m2 hm2 x).mono fun res h hr => by rcases hr with ⟨h0, _⟩ | ⟨_, h1, h2⟩; exact absurd h0 hg; exact ⟨h1, h2⟩
        refine ⟨fun res h' => res = .tup [.nils, .bool false] ∧ h' = [.row 0 1 m 5 (ints .u8 y), .row 0 1 N 3 (ints .i64 x)], (unI.snapL (args := [.own 1 0 0 m2]) [.row 0 1 m 5 (ints .u8 y), .row 0 1 N 3 (ints .i64 x)] ⟨.snap rfl rfl rfl (fun _ _ => rfl) (fun i hi => ⟨.int_eq (by simp [hi]), trivial⟩), trivial⟩ rfl (by rintro _ _ ⟨rfl, rfl⟩; exact ⟨rfl, by simp⟩)).mono (by rintro _ _ ⟨_, _, ⟨rfl, rfl⟩, rfl, rfl⟩; exact ⟨rfl, rfl⟩), ?_⟩
        rintro _ _ ⟨rfl, rfl⟩
        refine ⟨fun res h' => res = .tup [.own 2 0 0 (words 0 + 1), .bool true] ∧ h' = [.row 0 1 m 5 (ints .u8 y), .row 0 1 N 3 (ints .i64 x), .row 0 1 (words 0 + 1) 3 (ints .i64 (packed (fun _ => 0) 0))], ((packI_ok 0 (by omega) (fun _ => 0) (fun _ => ⟨by simp, by simp⟩)).snapL (args := [.nils]) [.row 0 1 m 5 (ints .u8 y), .row 0 1 N 3 (ints .i64 x)] ⟨.nils0 _ _, trivial⟩ rfl (by rintro _ _ ⟨rfl, rfl⟩; exact ⟨rfl, by simp [flatO, flat1]⟩)).mono (by rintro _ _ ⟨_, _, ⟨rfl, rfl⟩, rfl, rfl⟩; exact ⟨rfl, rfl⟩), ?_⟩
        rintro _ _ ⟨rfl, rfl⟩
        repeat first | refine splitB.mk (fun h => absurd h (by decide)) (fun _ => ?_) | refine splitB.mk (fun _ => ?_) (fun h => absurd h (by decide)) | refine splitB.mk (fun h => absurd h (by simp; omega)) (fun _ => ?_)
        exact ⟨[], .bool true, [], by simp, Nat.zero_le _, .bool _, trivial, rfl⟩

end Go.Am
