/- PushValue, the reference's and the program's. -/
import Derived.Test.YtiealnpaponjcaaQ7
set_option linter.unusedVariables false
set_option linter.unusedSimpArgs false
namespace Go.Am
open Go Go.RowKit Go.Proofs

def tab5 : Tab := mkTab [(3, .int .i64), (4, .bool), (5, .int .u8), (9, .str), (30, .slice 91 8 96 (zKey ++ zVal)),
  (32, .struct 5 [(0, 1, false), (1, 1, false), (2, 1, false), (3, 1, false), (4, 1, false)] zVal),
  (89, .struct 3 [(0, 1, false), (1, 1, false), (2, 1, false)] zKey), (91, .struct 8 [(0, 3, true), (3, 5, true)] (zKey ++ zVal)),
  (69, .struct 4 [(0, 1, false), (1, 1, false), (2, 1, false), (3, 1, false)] [.int .i64 0, .int .i64 0, .str [], .nils]),
  (27, .struct 5 [(0, 1, false), (1, 1, false), (2, 1, false), (3, 1, false), (4, 1, false)] zIns), (37, .struct 5 [(0, 1, false), (1, 1, false), (2, 1, false), (3, 1, false), (4, 1, false)] zIns)]
theorem tab5_ok : TabOk Try.prog tab5 := tabOk (by kernel_rfl)

structure I where
  op : Int
  a : Int
  b : Int
  s : List UInt8
  t : List UInt8
abbrev I.cells (i : I) : List PV := [.int .i64 i.op, .int .i64 i.a, .int .i64 i.b, .str i.s, .str i.t]
/-- A value without items. -/
def flat (kind num : Int) (str : List UInt8) : V := .mk kind num str 0 0 (fun _ => ⟨false, 0, []⟩) (fun _ => .none)
abbrev fl (kind num : Int) (str : List UInt8) : List PV := [.int .i64 kind, .int .i64 num, .str str, .int .i64 0, .slc 8 0 (flat kind num str).items]

theorem szIns_ok (i : I) (hs : i.s.length ≤ 9223372036854775807) (ht : i.t.length ≤ 9223372036854775807) (m : Int) (h0 : 0 ≤ m) (h1 : m ≤ 1048576) :
    ACall Try.prog 12 [.agg i.cells, .int .i64 m] [] (SzR m (i.s.length ≤ 1048576 ∧ i.t.length ≤ 1048576)) := by
  refine ACall.of_vc tab5_ok mixed Try.func12 rfl (by kernel_rfl) _ _ _ rfl (by kernel_rfl) ?_
  refine ⟨rfl, rfl, ?_⟩
  have e1 : IntKind.i64.wrap (m - (i.s.length : Int)) = m - i.s.length := by rw [w64] <;> omega
  refine splitB.mk (fun h => ?_) (fun h => ?_)
  · exact ⟨[], .int .i64 (-1), [], by simp, Nat.zero_le _, .int _ _, trivial, -1, rfl, rfl, by omega, by omega, fun h => by omega⟩
  · have h := of_decide_eq_false h
    rw [e1] at h
    refine ⟨rfl, rfl, ?_⟩
    have e2 : IntKind.i64.wrap (IntKind.i64.wrap (m - (i.s.length : Int)) - (i.t.length : Int)) = m - i.s.length - i.t.length := by rw [e1, w64] <;> omega
    refine splitB.mk (fun h => ?_) (fun h => ?_)
    · exact ⟨[], .int .i64 (-1), [], by simp, Nat.zero_le _, .int _ _, trivial, -1, rfl, rfl, by omega, by omega, fun h => by omega⟩
    · have h := of_decide_eq_false h
      rw [e2] at h
      exact ⟨[], .int .i64 (m - i.s.length - i.t.length), [], by simp, Nat.zero_le _, .int_eq e2, trivial, _, rfl, rfl, by omega, by omega, fun _ => ⟨by omega, by omega⟩⟩

theorem toIns_ok (i : I) : ACall Try.prog 14 [.agg i.cells] [] (fun res h => res = .agg i.cells ∧ h = []) := by
  refine ACall.of_vc tab5_ok mixed Try.func14 rfl (by kernel_rfl) _ _ _ rfl (by kernel_rfl) ?_
  refine ⟨rfl, rfl, rfl, rfl, rfl, rfl, rfl, rfl, rfl, rfl, rfl, rfl, rfl, rfl, rfl, rfl, rfl, rfl, rfl, rfl, rfl, rfl, rfl, ?_⟩
  exact ⟨[], .agg i.cells, [], by simp, Nat.zero_le _, .agg_l ⟨.int_eq rfl, .int_eq rfl, .int_eq rfl, .str_eq rfl, .str_eq rfl, trivial⟩, trivial, rfl, rfl⟩

theorem fz_fl {h η : List AObj} {k : List Nat} (a b : Int) (s : List UInt8) : Fz h η k (.agg [.int .i64 a, .int .i64 b, .str s, .int .i64 0, .nils]) (.agg (fl a b s)) :=
  .agg_l ⟨.int_eq rfl, .int_eq rfl, .str_eq rfl, .int_eq rfl, .nils0 _ _, trivial⟩

theorem intVS_ok (n : Int) : ACall Try.prog 31 [.int .i64 n] [] (fun res h => res = .agg (fl 2 n []) ∧ h = []) := by
  refine ACall.of_vc tab5_ok mixed Try.func31 rfl (by kernel_rfl) _ _ _ rfl (by kernel_rfl) ?_
  refine ⟨rfl, rfl, ?_⟩
  exact ⟨[], .agg (fl 2 n []), [], by simp, Nat.zero_le _, fz_fl _ _ _, trivial, rfl, rfl⟩
theorem intVI_ok (n : Int) : ACall Try.prog 34 [.int .i64 n] [] (fun res h => res = .agg (fl 2 n []) ∧ h = []) := by
  refine ACall.of_vc tab5_ok mixed Try.func34 rfl (by kernel_rfl) _ _ _ rfl (by kernel_rfl) ?_
  refine ⟨rfl, rfl, ?_⟩
  exact ⟨[], .agg (fl 2 n []), [], by simp, Nat.zero_le _, fz_fl _ _ _, trivial, rfl, rfl⟩
theorem textVS_ok (n : List UInt8) : ACall Try.prog 32 [.str n] [] (fun res h => res = .agg (fl 3 0 n) ∧ h = []) := by
  refine ACall.of_vc tab5_ok mixed Try.func32 rfl (by kernel_rfl) _ _ _ rfl (by kernel_rfl) ?_
  refine ⟨rfl, rfl, ?_⟩
  exact ⟨[], .agg (fl 3 0 n), [], by simp, Nat.zero_le _, fz_fl _ _ _, trivial, rfl, rfl⟩
theorem textVI_ok (n : List UInt8) : ACall Try.prog 35 [.str n] [] (fun res h => res = .agg (fl 3 0 n) ∧ h = []) := by
  refine ACall.of_vc tab5_ok mixed Try.func35 rfl (by kernel_rfl) _ _ _ rfl (by kernel_rfl) ?_
  refine ⟨rfl, rfl, ?_⟩
  exact ⟨[], .agg (fl 3 0 n), [], by simp, Nat.zero_le _, fz_fl _ _ _, trivial, rfl, rfl⟩
theorem nullVI_ok : ACall Try.prog 36 [] [] (fun res h => res = .agg (fl 0 0 []) ∧ h = []) := by
  refine ACall.of_vc tab5_ok mixed Try.func36 rfl (by kernel_rfl) _ _ _ rfl (by kernel_rfl) ?_
  refine ⟨rfl, rfl, ?_⟩
  exact ⟨[], .agg (fl 0 0 []), [], by simp, Nat.zero_le _, fz_fl _ _ _, trivial, rfl, rfl⟩
theorem boolVS_ok (b : Bool) : ACall Try.prog 50 [.bool b] [] (fun res h => res = .agg (fl 1 (if b = true then 1 else 0) []) ∧ h = []) := by
  refine ACall.of_vc tab5_ok mixed Try.func50 rfl (by kernel_rfl) _ _ _ rfl (by kernel_rfl) ?_
  refine splitB.mk (fun h => ?_) (fun h => ?_)
  · subst h
    refine ⟨rfl, rfl, ?_⟩
    exact ⟨[], .agg (fl 1 1 []), [], by simp, Nat.zero_le _, fz_fl _ _ _, trivial, rfl, rfl⟩
  · subst h
    refine ⟨rfl, rfl, ?_⟩
    exact ⟨[], .agg (fl 1 0 []), [], by simp, Nat.zero_le _, fz_fl _ _ _, trivial, rfl, rfl⟩
theorem boolVI_ok (b : Bool) : ACall Try.prog 37 [.bool b] [] (fun res h => res = .agg (fl 1 (if b = true then 1 else 0) []) ∧ h = []) := by
  refine ACall.of_vc tab5_ok mixed Try.func37 rfl (by kernel_rfl) _ _ _ rfl (by kernel_rfl) ?_
  refine splitB.mk (fun h => ?_) (fun h => ?_)
  · subst h
    refine ⟨rfl, rfl, ?_⟩
    exact ⟨[], .agg (fl 1 1 []), [], by simp, Nat.zero_le _, fz_fl _ _ _, trivial, rfl, rfl⟩
  · subst h
    refine ⟨rfl, rfl, ?_⟩
    exact ⟨[], .agg (fl 1 0 []), [], by simp, Nat.zero_le _, fz_fl _ _ _, trivial, rfl, rfl⟩

/-- The value of a constant. -/
def constV (n : Int) : PV := if n = 0 then .agg (fl 0 0 []) else .agg (fl 1 (if decide (n = 2) = true then 1 else 0) [])

theorem l19Const_ok (n : Int) : ACall Try.prog 33 [.agg [.int .i64 3, .int .i64 n, .str [], .nils]] [] (fun res h => res = constV n ∧ h = []) := by
  refine ACall.of_vc tab5_ok mixed Try.func33 rfl (by kernel_rfl) _ _ _ rfl (by kernel_rfl) ?_
  refine ⟨rfl, rfl, ?_⟩
  iterate 2 refine splitB.mk (fun h => absurd h (by decide)) (fun _ => ?_)
  refine ⟨rfl, rfl, splitB.mk (fun h => ?_) (fun h => ?_)⟩
  · have h : n = 0 := by simpa using h
    refine ⟨rfl, rfl, ?_⟩
    exact ⟨[], .agg (fl 0 0 []), [], by simp, Nat.zero_le _, fz_fl _ _ _, trivial, by simp [constV, h], rfl⟩
  · have h : ¬ n = 0 := by simpa using h
    refine ⟨rfl, rfl, ?_⟩
    refine ⟨_, (boolVS_ok (decide (n = 2))).frame0 _ rfl (fun _ => rfl), ?_⟩
    rintro _ _ ⟨rfl, rfl⟩
    refine ⟨rfl, rfl, ?_⟩
    exact ⟨[], .agg (fl 1 (if decide (n = 2) = true then 1 else 0) []), [], by simp, Nat.zero_le _, .agg_l ⟨.int_eq rfl, .int_eq rfl, .str_eq rfl, .int_eq rfl, .slc_eq rfl (fun _ _ => rfl), trivial⟩, trivial, by simp [constV, h], rfl⟩

def valR (i : I) : PV :=
  if i.op = 2 then .tup [.agg (fl 2 i.a []), .bool true]
  else if i.op = 3 then .tup [.agg (fl 3 0 i.s), .bool true]
  else if i.op = 4 then .tup [constV i.a, .bool true]
  else .tup [.agg (fl 0 0 []), .bool false]

theorem constV_form (n : Int) : ∃ a b, constV n = .agg (fl a b []) := by
  unfold constV; split
  · exact ⟨_, _, rfl⟩
  · exact ⟨_, _, rfl⟩
theorem valR_form (i : I) : ∃ a b s ok, valR i = .tup [.agg (fl a b s), .bool ok] ∧ (s = [] ∨ s = i.s) := by
  unfold valR
  obtain ⟨c, d, hc⟩ := constV_form i.a
  repeat' split
  · exact ⟨_, _, _, _, rfl, .inl rfl⟩
  · exact ⟨_, _, _, _, rfl, .inr rfl⟩
  · exact ⟨_, _, _, _, by rw [hc], .inl rfl⟩
  · exact ⟨_, _, _, _, rfl, .inl rfl⟩

theorem fz_fl2 {h η : List AObj} {k : List Nat} (a b : Int) (s : List UInt8) : Fz h η k (.agg (fl a b s)) (.agg (fl a b s)) :=
  .agg_l ⟨.int_eq rfl, .int_eq rfl, .str_eq rfl, .int_eq rfl, .slc_eq rfl (fun _ _ => rfl), trivial⟩

theorem valS_ok (i : I) : ACall Try.prog 13 [.agg i.cells] [] (fun res h => res = valR i ∧ h = []) := by
  refine ACall.of_vc tab5_ok mixed Try.func13 rfl (by kernel_rfl) _ _ _ rfl (by kernel_rfl) ?_
  refine ⟨rfl, rfl, splitB.mk (fun h0 => ?_) (fun h0 => ?_)⟩
  · have h0 : i.op = 2 := by simpa using h0
    refine ⟨rfl, rfl, ?_⟩
    refine ⟨_, (intVS_ok i.a).frame0 _ rfl (fun _ => rfl), ?_⟩
    rintro _ _ ⟨rfl, rfl⟩
    refine ⟨rfl, rfl, ?_⟩
    exact ⟨[], .tup [.agg (fl 2 i.a []), .bool true], [], by simp, Nat.zero_le _, .tup_l ⟨fz_fl2 _ _ _, .bool _, trivial⟩, trivial, by simp [valR, h0], rfl⟩
  · have h0 : ¬ i.op = 2 := by simpa using h0
    refine splitB.mk (fun h1 => ?_) (fun h1 => ?_)
    · have h1 : i.op = 3 := by simpa using h1
      refine ⟨rfl, rfl, ?_⟩
      refine ⟨_, (textVS_ok i.s).frame0 _ rfl (fun _ => rfl), ?_⟩
      rintro _ _ ⟨rfl, rfl⟩
      refine ⟨rfl, rfl, ?_⟩
      exact ⟨[], .tup [.agg (fl 3 0 i.s), .bool true], [], by simp, Nat.zero_le _, .tup_l ⟨fz_fl2 _ _ _, .bool _, trivial⟩, trivial, by simp [valR, h0, h1], rfl⟩
    · have h1 : ¬ i.op = 3 := by simpa using h1
      refine splitB.mk (fun h2 => ?_) (fun h2 => ?_)
      · have h2 : i.op = 4 := by simpa using h2
        obtain ⟨c, d, hc⟩ := constV_form i.a
        have lc : ACall Try.prog 33 [.agg [.int .i64 3, .int .i64 i.a, .str [], .nils]] [] (fun res h => res = .agg (fl c d []) ∧ h = []) := by rw [← hc]; exact l19Const_ok i.a
        refine ⟨rfl, rfl, ?_⟩
        refine ⟨_, lc.frame0 _ rfl (fun _ => rfl), ?_⟩
        rintro _ _ ⟨rfl, rfl⟩
        refine ⟨rfl, rfl, ?_⟩
        exact ⟨[], .tup [.agg (fl c d []), .bool true], [], by simp, Nat.zero_le _, .tup_l ⟨fz_fl2 _ _ _, .bool _, trivial⟩, trivial, by simp only [valR, if_neg h0, if_neg h1, if_pos h2, hc], rfl⟩
      · have h2 : ¬ i.op = 4 := by simpa using h2
        refine ⟨rfl, rfl, ?_⟩
        exact ⟨[], .tup [.agg (fl 0 0 []), .bool false], [], by simp, Nat.zero_le _, .tup_l ⟨fz_fl _ _ _, .bool _, trivial⟩, trivial, by simp only [valR, if_neg h0, if_neg h1, if_neg h2], rfl⟩

theorem valI_ok (i : I) : ACall Try.prog 15 [.agg i.cells] [] (fun res h => res = valR i ∧ h = []) := by
  refine ACall.of_vc tab5_ok mixed Try.func15 rfl (by kernel_rfl) _ _ _ rfl (by kernel_rfl) ?_
  refine ⟨rfl, rfl, splitB.mk (fun h0 => ?_) (fun h0 => ?_)⟩
  · have h0 : i.op = 2 := by simpa using h0
    refine ⟨rfl, rfl, ?_⟩
    refine ⟨_, (intVI_ok i.a).frame0 _ rfl (fun _ => rfl), ?_⟩
    rintro _ _ ⟨rfl, rfl⟩
    refine ⟨rfl, rfl, ?_⟩
    exact ⟨[], .tup [.agg (fl 2 i.a []), .bool true], [], by simp, Nat.zero_le _, .tup_l ⟨fz_fl2 _ _ _, .bool _, trivial⟩, trivial, by simp [valR, h0], rfl⟩
  · have h0 : ¬ i.op = 2 := by simpa using h0
    refine splitB.mk (fun h1 => ?_) (fun h1 => ?_)
    · have h1 : i.op = 3 := by simpa using h1
      refine ⟨rfl, rfl, ?_⟩
      refine ⟨_, (textVI_ok i.s).frame0 _ rfl (fun _ => rfl), ?_⟩
      rintro _ _ ⟨rfl, rfl⟩
      refine ⟨rfl, rfl, ?_⟩
      exact ⟨[], .tup [.agg (fl 3 0 i.s), .bool true], [], by simp, Nat.zero_le _, .tup_l ⟨fz_fl2 _ _ _, .bool _, trivial⟩, trivial, by simp [valR, h0, h1], rfl⟩
    · have h1 : ¬ i.op = 3 := by simpa using h1
      refine splitB.mk (fun h2 => ?_) (fun h2 => ?_)
      · have h2 : i.op = 4 := by simpa using h2
        refine ⟨rfl, rfl, splitB.mk (fun h3 => ?_) (fun h3 => ?_)⟩
        · have h3 : i.a = 0 := by simpa using h3
          refine ⟨_, nullVI_ok.frame0 _ rfl (fun _ => rfl), ?_⟩
          rintro _ _ ⟨rfl, rfl⟩
          refine ⟨rfl, rfl, ?_⟩
          exact ⟨[], .tup [.agg (fl 0 0 []), .bool true], [], by simp, Nat.zero_le _, .tup_l ⟨fz_fl2 _ _ _, .bool _, trivial⟩, trivial, by simp only [valR, if_neg h0, if_neg h1, if_pos h2, constV, if_pos h3], rfl⟩
        · have h3 : ¬ i.a = 0 := by simpa using h3
          refine ⟨rfl, rfl, ?_⟩
          refine ⟨_, (boolVI_ok (decide (i.a = 2))).frame0 _ rfl (fun _ => rfl), ?_⟩
          rintro _ _ ⟨rfl, rfl⟩
          refine ⟨rfl, rfl, ?_⟩
          exact ⟨[], .tup [.agg (fl 1 (if decide (i.a = 2) = true then 1 else 0) []), .bool true], [], by simp, Nat.zero_le _, .tup_l ⟨fz_fl2 _ _ _, .bool _, trivial⟩, trivial, by simp only [valR, if_neg h0, if_neg h1, if_pos h2, constV, if_neg h3], rfl⟩
      · have h2 : ¬ i.op = 4 := by simpa using h2
        refine ⟨_, nullVI_ok.frame0 _ rfl (fun _ => rfl), ?_⟩
        rintro _ _ ⟨rfl, rfl⟩
        refine ⟨rfl, rfl, ?_⟩
        exact ⟨[], .tup [.agg (fl 0 0 []), .bool false], [], by simp, Nat.zero_le _, .tup_l ⟨fz_fl2 _ _ _, .bool _, trivial⟩, trivial, by simp only [valR, if_neg h0, if_neg h1, if_neg h2], rfl⟩

theorem markEntryS0_ok (f : Nat → List PV) (k : Int) : ACall Try.prog 38 [.slc 8 0 f, .int .i64 k] [] (fun res h => res = .int .i64 k ∧ h = []) := by
  refine ACall.of_vc tab5_ok mixed Try.func38 rfl (by kernel_rfl) _ _ _ rfl (by kernel_rfl) ?_
  refine LoopVC.mk Unit (fun _ => [(0, .slc 8 0 f), (1, .int .i64 k), (5, .int .i64 0)]) (fun _ => []) (fun _ => True) (fun _ => 0) () trivial ?_ (fun _ _ => ?_)
  · exact ⟨[], by simp, Nat.zero_le _, ⟨.slc_eq rfl (fun _ _ => rfl), .int_eq rfl, .int_eq rfl, trivial⟩, trivial⟩
  · refine splitB.mk (fun h => absurd h (by decide)) (fun _ => ?_)
    exact ⟨[], .int .i64 k, [], by simp, Nat.zero_le _, .int _ _, trivial, rfl, rfl⟩
theorem heldEntryS0_ok (f : Nat → List PV) (k : Int) : ACall Try.prog 39 [.slc 8 0 f, .int .i64 k] [] (fun res h => res = .int .i64 k ∧ h = []) := by
  refine ACall.of_vc tab5_ok mixed Try.func39 rfl (by kernel_rfl) _ _ _ rfl (by kernel_rfl) ?_
  refine LoopVC.mk Unit (fun _ => [(0, .slc 8 0 f), (1, .int .i64 k), (5, .int .i64 0)]) (fun _ => []) (fun _ => True) (fun _ => 0) () trivial ?_ (fun _ _ => ?_)
  · exact ⟨[], by simp, Nat.zero_le _, ⟨.slc_eq rfl (fun _ _ => rfl), .int_eq rfl, .int_eq rfl, trivial⟩, trivial⟩
  · refine splitB.mk (fun h => absurd h (by decide)) (fun _ => ?_)
    exact ⟨[], .int .i64 k, [], by simp, Nat.zero_le _, .int _ _, trivial, rfl, rfl⟩
theorem markV_ok (a b : Int) (s : List UInt8) : ACall Try.prog 16 [.agg (fl a b s), .int .i64 1] [] (fun res h => res = .int .i64 1 ∧ h = []) := by
  refine ACall.of_vc tab5_ok mixed Try.func16 rfl (by kernel_rfl) _ _ _ rfl (by kernel_rfl) ?_
  refine ⟨rfl, rfl, ?_⟩
  refine ⟨_, (markEntryS0_ok _ 1).frame0 _ rfl (fun _ => rfl), ?_⟩
  rintro _ _ ⟨rfl, rfl⟩
  exact ⟨[], .int .i64 1, [], by simp, Nat.zero_le _, .int _ _, trivial, rfl, rfl⟩
theorem heldV_ok (a b : Int) (s : List UInt8) : ACall Try.prog 17 [.agg (fl a b s), .int .i64 1] [] (fun res h => res = .int .i64 1 ∧ h = []) := by
  refine ACall.of_vc tab5_ok mixed Try.func17 rfl (by kernel_rfl) _ _ _ rfl (by kernel_rfl) ?_
  refine ⟨rfl, rfl, ?_⟩
  refine ⟨_, (heldEntryS0_ok _ 1).frame0 _ rfl (fun _ => rfl), ?_⟩
  rintro _ _ ⟨rfl, rfl⟩
  refine splitB.mk (fun h => absurd h (by decide)) (fun _ => ?_)
  exact ⟨[], .int .i64 1, [], by simp, Nat.zero_le _, .int _ _, trivial, rfl, rfl⟩

theorem lawPushValue (i : I) (hs : i.s.length ≤ 9223372036854775807) (ht : i.t.length ≤ 9223372036854775807) : ACall Try.prog 4 [.agg i.cells] [] (fun res _ => res = .bool true) := by
  obtain ⟨a, b, s, ok, hp, hs'⟩ := valR_form i
  have sl : s.length ≤ 9223372036854775807 := by rcases hs' with rfl | rfl <;> simp [hs]
  have cS : ACall Try.prog 13 [.agg i.cells] [] (fun res h => res = .tup [.agg (fl a b s), .bool ok] ∧ h = []) := by rw [← hp]; exact valS_ok i
  have cI : ACall Try.prog 15 [.agg i.cells] [] (fun res h => res = .tup [.agg (fl a b s), .bool ok] ∧ h = []) := by rw [← hp]; exact valI_ok i
  have eqv : ACall Try.prog 11 [.agg (fl a b s), .agg (fl a b s)] [] (fun res h => res = .bool true ∧ h = []) := eqValue_ok (flat a b s) ⟨sl, by omega, fun i hi => absurd hi (Nat.not_lt_zero _)⟩
  have toi := toIns_ok i
  refine ACall.of_vc tab5_ok mixed Try.func4 rfl (by kernel_rfl) _ _ _ rfl (by kernel_rfl) ?_
  refine ⟨rfl, ?_⟩
  refine ⟨fun res h' => ∃ r : Int, res = .int .i64 r ∧ h' = [.row 0 5 1 37 (fun _ => i.cells)],
    ((szIns_ok i hs ht 1048576 (by omega) (by omega)).frame [.row 0 5 1 37 (fun _ => i.cells)] rfl).mono (by rintro _ _ ⟨_, _, ⟨r, rfl, rfl, _, _, r3⟩, rfl, rfl⟩; exact ⟨r, rfl, rfl⟩), ?_⟩
  rintro _ _ ⟨r, rfl, rfl⟩
  refine splitB.mk (fun h => ?_) (fun h => ?_)
  · exact ⟨[], .bool true, [], by simp, Nat.zero_le _, .bool _, trivial, rfl⟩
  · refine ⟨rfl, ?_⟩
    refine ⟨_, toi.frame0 _ rfl (fun _ => rfl), ?_⟩
    rintro _ _ ⟨rfl, rfl⟩
    refine ⟨_, cS.frame0 _ rfl (fun _ => rfl), ?_⟩
    rintro _ _ ⟨rfl, rfl⟩
    refine ⟨rfl, rfl, ?_⟩
    refine ⟨_, toi.frame0 _ rfl (fun _ => rfl), ?_⟩
    rintro _ _ ⟨rfl, rfl⟩
    refine ⟨_, cI.frame0 _ rfl (fun _ => rfl), ?_⟩
    rintro _ _ ⟨rfl, rfl⟩
    refine ⟨rfl, rfl, rfl, ?_⟩
    refine ⟨_, eqv.frame0 _ rfl (fun _ => rfl), ?_⟩
    rintro _ _ ⟨rfl, rfl⟩
    iterate 4 refine splitB.mk (fun h => absurd h (by decide)) (fun _ => ?_)
    refine splitB.mk (fun h => absurd h (by simp)) (fun _ => ?_)
    refine ⟨rfl, ?_⟩
    refine ⟨_, (markV_ok a b s).frame0 _ rfl (fun _ => rfl), ?_⟩
    rintro _ _ ⟨rfl, rfl⟩
    refine ⟨rfl, ?_⟩
    refine ⟨_, (heldV_ok a b s).frame0 _ rfl (fun _ => rfl), ?_⟩
    rintro _ _ ⟨rfl, rfl⟩
    refine splitB.mk (fun h => absurd h (by decide)) (fun _ => ?_)
    refine splitB.mk (fun h => absurd h (by decide)) (fun _ => ?_)
    refine ⟨rfl, ?_⟩
    refine ⟨_, toi.frame0 _ rfl (fun _ => rfl), ?_⟩
    rintro _ _ ⟨rfl, rfl⟩
    refine ⟨_, cI.frame0 _ rfl (fun _ => rfl), ?_⟩
    rintro _ _ ⟨rfl, rfl⟩
    refine ⟨rfl, rfl, rfl, ?_⟩
    refine ⟨_, eqv.frame0 _ rfl (fun _ => rfl), ?_⟩
    rintro _ _ ⟨rfl, rfl⟩
    iterate 4 refine splitB.mk (fun h => absurd h (by decide)) (fun _ => ?_)
    refine splitB.mk (fun h => absurd h (by simp)) (fun _ => ?_)
    refine ⟨rfl, ?_⟩
    refine ⟨_, (heldV_ok a b s).frame0 _ rfl (fun _ => rfl), ?_⟩
    rintro _ _ ⟨rfl, rfl⟩
    refine splitB.mk (fun h => absurd h (by decide)) (fun _ => ?_)
    refine splitB.mk (fun h => absurd h (by decide)) (fun _ => ?_)
    exact ⟨[], .bool true, [], by simp, Nat.zero_le _, .bool _, trivial, rfl⟩

end Go.Am
