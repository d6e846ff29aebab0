/- A mark. (Printed by gen7.py.) -/
import Derived.Test.YtagfpmbccfghnaaDoorX6
set_option linter.unusedVariables false
set_option linter.unusedSimpArgs false
namespace Go.Am
open Go Go.RowKit Go.Proofs

def marksI : List (List UInt8) := [[61, 61, 61], [33, 61, 61], [60, 61, 62], [61, 61], [33, 61], [60, 61], [62, 61], [61, 62], [45, 62], [58, 58], [38, 38], [124, 124], [63, 63], [43], [45], [42], [47], [37], [46], [61], [33], [60], [62], [40], [41], [91], [93], [123], [125], [44], [59], [63], [58], [38]]
abbrev mcell (i : Nat) : List PV := [.str (marksI.getD i [])]
/-- What a mark's token makes of the lexer. -/
def markH (s : List UInt8) (pos : Int) (ts : List Tk) : Option (List UInt8) → List AObj
  | none => LH s pos 2 ts
  | some m => LH s (IntKind.i64.wrap (pos + m.length)) 0 (ts ++ [⟨6, 0, m, pos⟩])

theorem markNil (s : List UInt8) (pos : Int) (hn : ([] : List Tk).length ≤ 1000000) (rest : List UInt8) :
    ACall Tryd.prog 71 [.optr 0 0 0 0, .str rest] (LH s pos 0 []) (fun _ h => h = markH s pos [] (marksI.find? fun m => Lib.hasPrefix rest m)) := by
  obtain ⟨R, hR⟩ : ∃ R, (marksI.find? fun m => Lib.hasPrefix rest m) = R := ⟨_, rfl⟩
  rw [hR]
  refine ACall.of_vc tabL_ok mixed Tryd.func71 rfl (by kernel_rfl) _ _ _ rfl (by kernel_rfl) ?_
  refine ⟨rfl, ?_⟩
  refine LoopVC.mk Nat (fun i => [(0, .optr 0 0 0 0), (1, .str rest), (8, .own 1 0 0 34), (9, .int .i64 34), (10, .int .i64 i)]) (fun i => [lexO s pos .nils 0, .row 0 1 34 9 mcell])
    (fun i => ((marksI.drop i).find? fun m => Lib.hasPrefix rest m) = R ∧ i ≤ 34) (fun i => 34 - i) 0 ⟨hR, by simp⟩ ?_ (fun i hx => ?_)
  · refine ⟨[0, 1], by simp, (show 1 ≤ 2 by decide), ⟨.optr_eq rfl ⟨_, _, _, _, rfl⟩ ⟨_, _, _, _, rfl⟩ rfl rfl, .str_eq rfl, .own_eq rfl ⟨_, _, _, _, rfl⟩ ⟨_, _, _, _, rfl⟩ rfl rfl, .int_eq rfl, .int_eq rfl, trivial⟩, ⟨⟨fun _ => ⟨rfl, rfl⟩, rfl, rfl, rfl, fun i hi => by obtain rfl : i = 0 := (by omega); exact ⟨.str_eq rfl, .int_eq rfl, .nils, .int_eq rfl, trivial⟩⟩, ⟨fun h => absurd (show 1 < 1 from h) (by decide), rfl, rfl, rfl, fun i hi => ?_⟩, trivial⟩⟩
    match i, hi with
    | 0, _ => exact ⟨.str_eq rfl, trivial⟩
    | 1, _ => exact ⟨.str_eq rfl, trivial⟩
    | 2, _ => exact ⟨.str_eq rfl, trivial⟩
    | 3, _ => exact ⟨.str_eq rfl, trivial⟩
    | 4, _ => exact ⟨.str_eq rfl, trivial⟩
    | 5, _ => exact ⟨.str_eq rfl, trivial⟩
    | 6, _ => exact ⟨.str_eq rfl, trivial⟩
    | 7, _ => exact ⟨.str_eq rfl, trivial⟩
    | 8, _ => exact ⟨.str_eq rfl, trivial⟩
    | 9, _ => exact ⟨.str_eq rfl, trivial⟩
    | 10, _ => exact ⟨.str_eq rfl, trivial⟩
    | 11, _ => exact ⟨.str_eq rfl, trivial⟩
    | 12, _ => exact ⟨.str_eq rfl, trivial⟩
    | 13, _ => exact ⟨.str_eq rfl, trivial⟩
    | 14, _ => exact ⟨.str_eq rfl, trivial⟩
    | 15, _ => exact ⟨.str_eq rfl, trivial⟩
    | 16, _ => exact ⟨.str_eq rfl, trivial⟩
    | 17, _ => exact ⟨.str_eq rfl, trivial⟩
    | 18, _ => exact ⟨.str_eq rfl, trivial⟩
    | 19, _ => exact ⟨.str_eq rfl, trivial⟩
    | 20, _ => exact ⟨.str_eq rfl, trivial⟩
    | 21, _ => exact ⟨.str_eq rfl, trivial⟩
    | 22, _ => exact ⟨.str_eq rfl, trivial⟩
    | 23, _ => exact ⟨.str_eq rfl, trivial⟩
    | 24, _ => exact ⟨.str_eq rfl, trivial⟩
    | 25, _ => exact ⟨.str_eq rfl, trivial⟩
    | 26, _ => exact ⟨.str_eq rfl, trivial⟩
    | 27, _ => exact ⟨.str_eq rfl, trivial⟩
    | 28, _ => exact ⟨.str_eq rfl, trivial⟩
    | 29, _ => exact ⟨.str_eq rfl, trivial⟩
    | 30, _ => exact ⟨.str_eq rfl, trivial⟩
    | 31, _ => exact ⟨.str_eq rfl, trivial⟩
    | 32, _ => exact ⟨.str_eq rfl, trivial⟩
    | 33, _ => exact ⟨.str_eq rfl, trivial⟩
    | k + 34, hk => exact absurd (show k + 34 < 34 from hk) (by omega)
  · obtain ⟨hg, hi⟩ := hx
    refine splitB.mk (fun h11 => ?_) (fun h11 => ?_)
    · have h11 : i < 34 := by have := of_decide_eq_true h11; omega
      have hd : marksI.drop i = marksI.getD i [] :: marksI.drop (i + 1) := by
        have hl : i < marksI.length := h11
        rw [List.drop_eq_getElem_cons hl, List.getD_eq_getElem?_getD, List.getElem?_eq_getElem hl]; rfl
      rw [hd, List.find?_cons] at hg
      have em : marksI.getD (0 + ((i : Nat) : Int).toNat) [] = marksI.getD i [] := by simp
      refine ⟨rfl, ⟨by omega, by omega⟩, rfl, ?_⟩
      refine ⟨_, hasPrefix_ok _ _ _, ?_⟩
      rintro _ _ ⟨rfl, rfl⟩
      refine splitB.mk (fun h16 => ?_) (fun h16 => ?_)
      · have h16 : Lib.hasPrefix rest (marksI.getD i []) = true := by rw [← em]; exact h16
        rw [h16] at hg
        simp only at hg
        subst hg
        have ca : ACall Tryd.prog 65 [.optr 0 0 0 0, .int .i64 6, .int .i64 0, .str (marksI.getD (0 + ((i : Nat) : Int).toNat) []), .int .i64 (marksI.getD (0 + ((i : Nat) : Int).toNat) []).length] (LH s pos 0 []) (fun _ h => h = markH s pos [] (some (marksI.getD i []))) :=
          (add_ok s pos 0 6 0 _ _ [] hn).mono (by rintro _ _ rfl; rw [em]; rfl)
        refine ⟨_, ca.over [0] [lexO s pos .nils 0, .row 0 1 34 9 mcell] rfl (by simp) (by simp) (by rintro (_ | _ | j) o hj <;> cases hj <;> rfl) rfl, ?_⟩
        rintro _ _ ⟨_, _, rfl, rfl, rfl⟩
        exact ⟨[0, 2], .junk, markH s pos [] (some (marksI.getD i [])), by simp, (show 1 ≤ 2 by decide), .junk _, ⟨⟨fun _ => ⟨rfl, rfl⟩, rfl, rfl, rfl, fun i hi => by obtain rfl : i = 0 := (by omega); exact ⟨.str_eq rfl, .int_eq rfl, .own_eq rfl ⟨_, _, _, _, rfl⟩ ⟨_, _, _, _, rfl⟩ rfl rfl, .int_eq rfl, trivial⟩⟩, ⟨fun h => absurd (show 1 < 1 from h) (by decide), rfl, rfl, rfl, fun i hi => ⟨.int_eq rfl, .int_eq rfl, .str_eq rfl, .int_eq rfl, trivial⟩⟩, trivial⟩, rfl⟩
      · have h16 : Lib.hasPrefix rest (marksI.getD i []) = false := by rw [← em]; exact h16
        rw [h16] at hg
        simp only at hg
        exact ⟨i + 1, ⟨hg, by omega⟩, by simp only; omega, [0, 1], by simp, (show 1 ≤ 2 by decide), ⟨.optr_eq rfl ⟨_, _, _, _, rfl⟩ ⟨_, _, _, _, rfl⟩ rfl rfl, .str_eq rfl, .own_eq rfl ⟨_, _, _, _, rfl⟩ ⟨_, _, _, _, rfl⟩ rfl rfl, .int_eq rfl, .int_eq (by rw [w64] <;> omega), trivial⟩, ⟨⟨fun _ => ⟨rfl, rfl⟩, rfl, rfl, rfl, fun i hi => by obtain rfl : i = 0 := (by omega); exact ⟨.str_eq rfl, .int_eq rfl, .nils, .int_eq rfl, trivial⟩⟩, ⟨fun h => absurd (show 1 < 1 from h) (by decide), rfl, rfl, rfl, fun j hj => ⟨.str_eq rfl, trivial⟩⟩, trivial⟩⟩
    · have h11 : ¬ i < 34 := by have := of_decide_eq_false h11; omega
      rw [List.drop_eq_nil_of_le (show marksI.length ≤ i from by have : marksI.length = 34 := rfl; omega)] at hg
      refine ⟨rfl, rfl, rfl, ?_⟩
      subst hg
      exact ⟨[0], .junk, LH s pos 2 [], by simp, (show 1 ≤ 1 by decide), .junk _, ⟨⟨fun _ => ⟨rfl, rfl⟩, rfl, rfl, rfl, fun i hi => by obtain rfl : i = 0 := (by omega); exact ⟨.str_eq rfl, .int_eq rfl, .nils, .int_eq rfl, trivial⟩⟩, trivial⟩, rfl⟩

theorem markCons (s : List UInt8) (pos : Int) (t : Tk) (ts : List Tk) (hn : ((t :: ts) : List Tk).length ≤ 1000000) (rest : List UInt8) :
    ACall Tryd.prog 71 [.optr 0 0 0 0, .str rest] (LH s pos 0 (t :: ts)) (fun _ h => h = markH s pos (t :: ts) (marksI.find? fun m => Lib.hasPrefix rest m)) := by
  obtain ⟨R, hR⟩ : ∃ R, (marksI.find? fun m => Lib.hasPrefix rest m) = R := ⟨_, rfl⟩
  rw [hR]
  refine ACall.of_vc tabL_ok mixed Tryd.func71 rfl (by kernel_rfl) _ _ _ rfl (by kernel_rfl) ?_
  refine ⟨rfl, ?_⟩
  refine LoopVC.mk Nat (fun i => [(0, .optr 0 0 0 0), (1, .str rest), (8, .own 2 0 0 34), (9, .int .i64 34), (10, .int .i64 i)]) (fun i => [lexO s pos (.own 1 ts.length 0 (ts.length + 1)) 0, .row ts.length 4 (ts.length + 1) 33 (fun i => (tkAt (t :: ts) i).cells), .row 0 1 34 9 mcell])
    (fun i => ((marksI.drop i).find? fun m => Lib.hasPrefix rest m) = R ∧ i ≤ 34) (fun i => 34 - i) 0 ⟨hR, by simp⟩ ?_ (fun i hx => ?_)
  · refine ⟨[0, 1, 2], by simp, (show 2 ≤ 3 by decide), ⟨.optr_eq rfl ⟨_, _, _, _, rfl⟩ ⟨_, _, _, _, rfl⟩ rfl rfl, .str_eq rfl, .own_eq rfl ⟨_, _, _, _, rfl⟩ ⟨_, _, _, _, rfl⟩ rfl rfl, .int_eq rfl, .int_eq rfl, trivial⟩, ⟨⟨fun _ => ⟨rfl, rfl⟩, rfl, rfl, rfl, fun i hi => by obtain rfl : i = 0 := (by omega); exact ⟨.str_eq rfl, .int_eq rfl, .own_eq rfl ⟨_, _, _, _, rfl⟩ ⟨_, _, _, _, rfl⟩ rfl rfl, .int_eq rfl, trivial⟩⟩, ⟨fun _ => ⟨rfl, rfl⟩, rfl, rfl, rfl, fun i hi => ⟨.int_eq rfl, .int_eq rfl, .str_eq rfl, .int_eq rfl, trivial⟩⟩, ⟨fun h => absurd (show 2 < 2 from h) (by decide), rfl, rfl, rfl, fun i hi => ?_⟩, trivial⟩⟩
    match i, hi with
    | 0, _ => exact ⟨.str_eq rfl, trivial⟩
    | 1, _ => exact ⟨.str_eq rfl, trivial⟩
    | 2, _ => exact ⟨.str_eq rfl, trivial⟩
    | 3, _ => exact ⟨.str_eq rfl, trivial⟩
    | 4, _ => exact ⟨.str_eq rfl, trivial⟩
    | 5, _ => exact ⟨.str_eq rfl, trivial⟩
    | 6, _ => exact ⟨.str_eq rfl, trivial⟩
    | 7, _ => exact ⟨.str_eq rfl, trivial⟩
    | 8, _ => exact ⟨.str_eq rfl, trivial⟩
    | 9, _ => exact ⟨.str_eq rfl, trivial⟩
    | 10, _ => exact ⟨.str_eq rfl, trivial⟩
    | 11, _ => exact ⟨.str_eq rfl, trivial⟩
    | 12, _ => exact ⟨.str_eq rfl, trivial⟩
    | 13, _ => exact ⟨.str_eq rfl, trivial⟩
    | 14, _ => exact ⟨.str_eq rfl, trivial⟩
    | 15, _ => exact ⟨.str_eq rfl, trivial⟩
    | 16, _ => exact ⟨.str_eq rfl, trivial⟩
    | 17, _ => exact ⟨.str_eq rfl, trivial⟩
    | 18, _ => exact ⟨.str_eq rfl, trivial⟩
    | 19, _ => exact ⟨.str_eq rfl, trivial⟩
    | 20, _ => exact ⟨.str_eq rfl, trivial⟩
    | 21, _ => exact ⟨.str_eq rfl, trivial⟩
    | 22, _ => exact ⟨.str_eq rfl, trivial⟩
    | 23, _ => exact ⟨.str_eq rfl, trivial⟩
    | 24, _ => exact ⟨.str_eq rfl, trivial⟩
    | 25, _ => exact ⟨.str_eq rfl, trivial⟩
    | 26, _ => exact ⟨.str_eq rfl, trivial⟩
    | 27, _ => exact ⟨.str_eq rfl, trivial⟩
    | 28, _ => exact ⟨.str_eq rfl, trivial⟩
    | 29, _ => exact ⟨.str_eq rfl, trivial⟩
    | 30, _ => exact ⟨.str_eq rfl, trivial⟩
    | 31, _ => exact ⟨.str_eq rfl, trivial⟩
    | 32, _ => exact ⟨.str_eq rfl, trivial⟩
    | 33, _ => exact ⟨.str_eq rfl, trivial⟩
    | k + 34, hk => exact absurd (show k + 34 < 34 from hk) (by omega)
  · obtain ⟨hg, hi⟩ := hx
    refine splitB.mk (fun h11 => ?_) (fun h11 => ?_)
    · have h11 : i < 34 := by have := of_decide_eq_true h11; omega
      have hd : marksI.drop i = marksI.getD i [] :: marksI.drop (i + 1) := by
        have hl : i < marksI.length := h11
        rw [List.drop_eq_getElem_cons hl, List.getD_eq_getElem?_getD, List.getElem?_eq_getElem hl]; rfl
      rw [hd, List.find?_cons] at hg
      have em : marksI.getD (0 + ((i : Nat) : Int).toNat) [] = marksI.getD i [] := by simp
      refine ⟨rfl, ⟨by omega, by omega⟩, rfl, ?_⟩
      refine ⟨_, hasPrefix_ok _ _ _, ?_⟩
      rintro _ _ ⟨rfl, rfl⟩
      refine splitB.mk (fun h16 => ?_) (fun h16 => ?_)
      · have h16 : Lib.hasPrefix rest (marksI.getD i []) = true := by rw [← em]; exact h16
        rw [h16] at hg
        simp only at hg
        subst hg
        have ca : ACall Tryd.prog 65 [.optr 0 0 0 0, .int .i64 6, .int .i64 0, .str (marksI.getD (0 + ((i : Nat) : Int).toNat) []), .int .i64 (marksI.getD (0 + ((i : Nat) : Int).toNat) []).length] (LH s pos 0 (t :: ts)) (fun _ h => h = markH s pos (t :: ts) (some (marksI.getD i []))) :=
          (add_ok s pos 0 6 0 _ _ (t :: ts) hn).mono (by rintro _ _ rfl; rw [em]; rfl)
        refine ⟨_, ca.over [0, 1] [lexO s pos (.own 1 ts.length 0 (ts.length + 1)) 0, .row ts.length 4 (ts.length + 1) 33 (fun i => (tkAt (t :: ts) i).cells), .row 0 1 34 9 mcell] rfl (by simp) (by simp) (by rintro (_ | _ | j) o hj <;> cases hj <;> rfl) rfl, ?_⟩
        rintro _ _ ⟨_, _, rfl, rfl, rfl⟩
        exact ⟨[0, 1], .junk, markH s pos (t :: ts) (some (marksI.getD i [])), by simp, (show 2 ≤ 2 by decide), .junk _, ⟨⟨fun _ => ⟨rfl, rfl⟩, rfl, rfl, rfl, fun i hi => by obtain rfl : i = 0 := (by omega); exact ⟨.str_eq rfl, .int_eq rfl, .own_eq rfl ⟨_, _, _, _, rfl⟩ ⟨_, _, _, _, rfl⟩ rfl rfl, .int_eq rfl, trivial⟩⟩, ⟨fun _ => ⟨rfl, rfl⟩, rfl, rfl, rfl, fun i hi => ⟨.int_eq rfl, .int_eq rfl, .str_eq rfl, .int_eq rfl, trivial⟩⟩, trivial⟩, rfl⟩
      · have h16 : Lib.hasPrefix rest (marksI.getD i []) = false := by rw [← em]; exact h16
        rw [h16] at hg
        simp only at hg
        exact ⟨i + 1, ⟨hg, by omega⟩, by simp only; omega, [0, 1, 2], by simp, (show 2 ≤ 3 by decide), ⟨.optr_eq rfl ⟨_, _, _, _, rfl⟩ ⟨_, _, _, _, rfl⟩ rfl rfl, .str_eq rfl, .own_eq rfl ⟨_, _, _, _, rfl⟩ ⟨_, _, _, _, rfl⟩ rfl rfl, .int_eq rfl, .int_eq (by rw [w64] <;> omega), trivial⟩, ⟨⟨fun _ => ⟨rfl, rfl⟩, rfl, rfl, rfl, fun i hi => by obtain rfl : i = 0 := (by omega); exact ⟨.str_eq rfl, .int_eq rfl, .own_eq rfl ⟨_, _, _, _, rfl⟩ ⟨_, _, _, _, rfl⟩ rfl rfl, .int_eq rfl, trivial⟩⟩, ⟨fun _ => ⟨rfl, rfl⟩, rfl, rfl, rfl, fun i hi => ⟨.int_eq rfl, .int_eq rfl, .str_eq rfl, .int_eq rfl, trivial⟩⟩, ⟨fun h => absurd (show 2 < 2 from h) (by decide), rfl, rfl, rfl, fun j hj => ⟨.str_eq rfl, trivial⟩⟩, trivial⟩⟩
    · have h11 : ¬ i < 34 := by have := of_decide_eq_false h11; omega
      rw [List.drop_eq_nil_of_le (show marksI.length ≤ i from by have : marksI.length = 34 := rfl; omega)] at hg
      refine ⟨rfl, rfl, rfl, ?_⟩
      subst hg
      exact ⟨[0, 1], .junk, LH s pos 2 (t :: ts), by simp, (show 2 ≤ 2 by decide), .junk _, ⟨⟨fun _ => ⟨rfl, rfl⟩, rfl, rfl, rfl, fun i hi => by obtain rfl : i = 0 := (by omega); exact ⟨.str_eq rfl, .int_eq rfl, .own_eq rfl ⟨_, _, _, _, rfl⟩ ⟨_, _, _, _, rfl⟩ rfl rfl, .int_eq rfl, trivial⟩⟩, ⟨fun _ => ⟨rfl, rfl⟩, rfl, rfl, rfl, fun i hi => ⟨.int_eq rfl, .int_eq rfl, .str_eq rfl, .int_eq rfl, trivial⟩⟩, trivial⟩, rfl⟩

theorem mark_ok (s : List UInt8) (pos : Int) (ts : List Tk) (hn : ts.length ≤ 1000000) (rest : List UInt8) :
    ACall Tryd.prog 71 [.optr 0 0 0 0, .str rest] (LH s pos 0 ts) (fun _ h => h = markH s pos ts (marksI.find? fun m => Lib.hasPrefix rest m)) := by
  cases ts with
  | nil => exact markNil s pos hn rest
  | cons t ts => exact markCons s pos t ts hn rest

end Go.Am
