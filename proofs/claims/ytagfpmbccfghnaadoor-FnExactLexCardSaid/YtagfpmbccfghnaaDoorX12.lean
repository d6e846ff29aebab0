/- The reference: l14Is and l14Mark. (Printed by gen12.py.) -/
import Derived.Test.YtagfpmbccfghnaaDoorX11
set_option linter.unusedVariables false
set_option linter.unusedSimpArgs false
namespace Go.Am
open Go Go.RowKit Go.Proofs

theorem is_eq (s p : List UInt8) (pos : Nat) (hp : pos + p.length ≤ s.length) : ((s.take (pos + p.length)).drop pos == p) = Lib.hasPrefix (s.drop pos) p := by
  have e : (s.take (pos + p.length)).drop pos = (s.drop pos).take p.length := by rw [List.drop_take]; congr 1; omega
  rw [e]
  have e2 : Lib.hasPrefix (s.drop pos) p = p.isPrefixOf (s.drop pos) := rfl
  rw [e2, Bool.eq_iff_iff, List.isPrefixOf_iff_prefix, beq_iff_eq]
  constructor
  · intro h; have q := List.take_prefix p.length (s.drop pos); rw [h] at q; exact q
  · intro h; exact (List.prefix_iff_eq_take.1 h).symm
theorem is_no (s p : List UInt8) (pos : Nat) (hp : ¬ pos + p.length ≤ s.length) (h0 : pos ≤ s.length) : Lib.hasPrefix (s.drop pos) p = false := by
  cases h : Lib.hasPrefix (s.drop pos) p with
  | false => rfl
  | true => have := pre_len h; simp at this; omega
/-- The reference's: does a text stand at a place. -/
theorem l14Is_ok (s p : List UInt8) (pos : Nat) (h0 : pos ≤ s.length) (hs : s.length ≤ 4611686018427387904) (hp : p.length ≤ 1000000) : ACall Tryd.prog 30 [.str s, .int .i64 pos, .str p] [] (fun res h => res = .bool (Lib.hasPrefix (s.drop pos) p) ∧ h = []) := by
  refine ACall.of_vc tabL_ok mixed Tryd.func30 rfl (by kernel_rfl) _ _ _ rfl (by kernel_rfl) ?_
  have e1 : IntKind.i64.wrap ((s.length : Int) - (pos : Int)) = (s.length : Int) - pos := by rw [w64] <;> omega
  have e2 : IntKind.i64.wrap ((pos : Int) + (p.length : Int)) = ((pos + p.length : Nat) : Int) := by rw [w64] <;> omega
  refine splitB.mk (fun h14 => ?_) (fun h14 => ?_)
  · have h14 : pos + p.length ≤ s.length := by have q : (p.length : Int) ≤ IntKind.i64.wrap ((s.length : Int) - (pos : Int)) := of_decide_eq_true h14; omega
    iterate 6 refine splitB.mk (fun _ => ?_) (fun h => absurd h (by decide))
    refine ⟨⟨by omega, (show (pos : Int) ≤ IntKind.i64.wrap ((pos : Int) + (p.length : Int)) by rw [e2]; omega), (show IntKind.i64.wrap ((pos : Int) + (p.length : Int)) ≤ (s.length : Int) by rw [e2]; omega)⟩, ?_⟩
    iterate 3 refine splitB.mk (fun _ => ?_) (fun h => absurd h (by decide))
    refine ⟨[], .bool (Lib.hasPrefix (s.drop pos) p), [], by simp, Nat.zero_le _, .bool_eq ?_, trivial, rfl, rfl⟩
    show ((s.take (IntKind.i64.wrap ((pos : Int) + (p.length : Int))).toNat).drop pos == p) = _
    rw [e2]
    exact is_eq s p pos h14
  · have h14 : ¬ pos + p.length ≤ s.length := by have q : ¬ (p.length : Int) ≤ IntKind.i64.wrap ((s.length : Int) - (pos : Int)) := of_decide_eq_false h14; omega
    iterate 9 refine splitB.mk (fun h => absurd h (by decide)) (fun _ => ?_)
    exact ⟨[], .bool (Lib.hasPrefix (s.drop pos) p), [], by simp, Nat.zero_le _, .bool_eq (by rw [is_no s p pos h14 h0]), trivial, rfl, rfl⟩

def singles : List UInt8 := [43, 45, 42, 47, 37, 46, 61, 33, 60, 62, 40, 41, 91, 93, 123, 125, 44, 59, 63, 58, 38]
theorem singles_at : ∀ j < 21, marksI.getD (13 + j) [] = [singles.getD j 0] ∧ (singles.take (j + 1)).drop j = [singles.getD j 0] := by decide
theorem marks_len' (i : Nat) : (marksI.getD i []).length ≤ 3 := by
  by_cases h : i < marksI.length
  · have : marksI.getD i [] ∈ marksI := by rw [List.getD_eq_getElem?_getD, List.getElem?_eq_getElem h]; exact List.getElem_mem h
    exact (marks_len _ this).2
  · rw [List.getD_eq_getElem?_getD, List.getElem?_eq_none (by omega)]; simp
theorem marks_drop {i : Nat} (hl : i < marksI.length) : marksI.drop i = marksI.getD i [] :: marksI.drop (i + 1) := by
  rw [List.drop_eq_getElem_cons hl, List.getD_eq_getElem?_getD, List.getElem?_eq_getElem hl]; rfl
theorem hp1 (s : List UInt8) (pos : Nat) (c : UInt8) (h : pos < s.length) : Lib.hasPrefix (s.drop pos) [c] = (c == s.getD pos 0) := by
  rw [drop_get h]
  show [c].isPrefixOf (_ :: _) = _
  simp [List.isPrefixOf]
/-- The reference's: the mark at a place. -/
theorem l14Mark_ok (s : List UInt8) (pos : Nat) (hp : pos < s.length) (hs : s.length ≤ 4611686018427387904) :
    ACall Tryd.prog 63 [.str s, .int .i64 pos] [] (fun res h => res = .str ((marksI.find? fun m => Lib.hasPrefix (s.drop pos) m).getD []) ∧ h = []) := by
  obtain ⟨R, hR⟩ : ∃ R, (marksI.find? fun m => Lib.hasPrefix (s.drop pos) m) = R := ⟨_, rfl⟩
  rw [hR]
  refine ACall.of_vc tabL_ok mixed Tryd.func63 rfl (by kernel_rfl) _ _ _ rfl (by kernel_rfl) ?_
  refine LoopVC.mk Nat (fun i => [(0, .str s), (1, .int .i64 pos), (5, .own 0 0 0 13), (6, .int .i64 i)]) (fun i => [.row 0 1 13 9 mcell])
    (fun i => ((marksI.drop i).find? fun m => Lib.hasPrefix (s.drop pos) m) = R ∧ i ≤ 13) (fun i => 13 - i) 0 ⟨hR, by simp⟩ ?_ (fun i hx => ?_)
  · refine ⟨[0], by simp, Nat.zero_le _, ⟨.str_eq rfl, .int_eq rfl, .own_eq rfl ⟨_, _, _, _, rfl⟩ ⟨_, _, _, _, rfl⟩ rfl rfl, .int_eq rfl, trivial⟩, ⟨⟨fun h => absurd h (by decide), rfl, rfl, rfl, fun i hi => ?_⟩, trivial⟩⟩
    match i, hi with
    | 0, _ => exact ⟨.str_eq rfl, trivial⟩
    | 1, _ => exact ⟨.str_eq rfl, trivial⟩
    | 2, _ => exact ⟨.str_eq rfl, trivial⟩
    | 3, _ => exact ⟨.str_eq rfl, trivial⟩
    | 4, _ => exact ⟨.str_eq rfl, trivial⟩
    | 5, _ => exact ⟨.str_eq rfl, trivial⟩
    | 6, _ => exact ⟨.str_eq rfl, trivial⟩
    | 7, _ => exact ⟨.str_eq rfl, trivial⟩
    | 8, _ => exact ⟨.str_eq rfl, trivial⟩
    | 9, _ => exact ⟨.str_eq rfl, trivial⟩
    | 10, _ => exact ⟨.str_eq rfl, trivial⟩
    | 11, _ => exact ⟨.str_eq rfl, trivial⟩
    | 12, _ => exact ⟨.str_eq rfl, trivial⟩
    | k + 13, hk => exact absurd (show k + 13 < 13 from hk) (by omega)
  · obtain ⟨hg, hi⟩ := hx
    refine ⟨rfl, ?_⟩
    refine splitB.mk (fun h13 => ?_) (fun h13 => ?_)
    · have h13 : i < 13 := by have q := of_decide_eq_true h13; omega
      rw [marks_drop (show i < marksI.length from (by have : marksI.length = 34 := rfl; omega)), List.find?_cons] at hg
      have em : marksI.getD (0 + ((i : Nat) : Int).toNat) [] = marksI.getD i [] := by simp
      have cm := l14Is_ok s (marksI.getD (0 + ((i : Nat) : Int).toNat) []) pos (by omega) hs (by have := marks_len' (0 + ((i : Nat) : Int).toNat); omega)
      refine ⟨rfl, ⟨by omega, by omega⟩, rfl, ?_⟩
      refine ⟨_, cm.frame0 _ rfl (fun _ => rfl), ?_⟩
      rintro _ _ ⟨rfl, rfl⟩
      refine splitB.mk (fun h16 => ?_) (fun h16 => ?_)
      · have h16 : Lib.hasPrefix (s.drop pos) (marksI.getD i []) = true := by rw [← em]; exact h16
        rw [h16] at hg
        simp only at hg
        refine ⟨rfl, ⟨by omega, by omega⟩, rfl, ?_⟩
        exact ⟨[], .str (marksI.getD i []), [], by simp, Nat.zero_le _, .str_eq em, trivial, by rw [← hg]; rfl, rfl⟩
      · have h16 : Lib.hasPrefix (s.drop pos) (marksI.getD i []) = false := by rw [← em]; exact h16
        rw [h16] at hg
        simp only at hg
        exact ⟨i + 1, ⟨hg, by omega⟩, by simp only; omega, [0], by simp, Nat.zero_le _, ⟨.str_eq rfl, .int_eq rfl, .own_eq rfl ⟨_, _, _, _, rfl⟩ ⟨_, _, _, _, rfl⟩ rfl rfl, .int_eq (by rw [w64] <;> omega), trivial⟩, ⟨⟨fun h => absurd h (by decide), rfl, rfl, rfl, fun i hi => ⟨.str_eq rfl, trivial⟩⟩, trivial⟩⟩
    · have h13 : i = 13 := by have q := of_decide_eq_false h13; omega
      subst h13
      refine LoopVC.mk Nat (fun j => [(0, .str s), (1, .int .i64 pos), (7, .str singles), (8, .int .i64 j)]) (fun j => [])
        (fun j => ((marksI.drop (13 + j)).find? fun m => Lib.hasPrefix (s.drop pos) m) = R ∧ j ≤ 21) (fun j => 21 - j) 0 ⟨hg, by simp⟩ ?_ (fun j hx => ?_)
      · exact ⟨[], by simp, Nat.zero_le _, ⟨.str_eq rfl, .int_eq rfl, .str_eq rfl, .int_eq rfl, trivial⟩, trivial⟩
      · obtain ⟨hg, hj⟩ := hx
        refine splitB.mk (fun h30 => ?_) (fun h30 => ?_)
        · have h30 : j < 21 := by have q : (j : Int) < 21 := of_decide_eq_true h30; omega
          obtain ⟨s1, s2⟩ := singles_at j h30
          rw [marks_drop (show 13 + j < marksI.length from (by have : marksI.length = 34 := rfl; omega)), List.find?_cons, s1, hp1 s pos _ hp] at hg
          refine ⟨⟨by omega, by omega⟩, ?_⟩
          refine ⟨⟨by omega, (show (j : Int) < 21 by omega)⟩, ?_⟩
          have e3 : IntKind.i64.wrap ((j : Int) + 1) = ((j + 1 : Nat) : Int) := by rw [w64] <;> omega
          refine splitB.mk (fun h39 => ?_) (fun h39 => ?_)
          · have h39 : (s.getD pos 0).toNat = (singles.getD j 0).toNat := eqT _ _ h39
            have h39 : singles.getD j 0 = s.getD pos 0 := (UInt8.toNat_inj.1 h39).symm
            rw [h39, show (s.getD pos 0 == s.getD pos 0) = true from beq_self_eq_true _] at hg
            simp only at hg
            refine ⟨⟨by omega, (show (j : Int) ≤ IntKind.i64.wrap ((j : Int) + 1) by rw [e3]; omega), (show IntKind.i64.wrap ((j : Int) + 1) ≤ 21 by rw [e3]; omega)⟩, ?_⟩
            exact ⟨[], .str [s.getD pos 0], [], by simp, Nat.zero_le _, .str_eq (show (singles.take (IntKind.i64.wrap ((j : Int) + 1)).toNat).drop j = _ by rw [e3, ← h39]; exact s2), trivial, by rw [← hg]; rfl, rfl⟩
          · have h39 : ¬ (s.getD pos 0).toNat = (singles.getD j 0).toNat := eqF _ _ h39
            have h39 : (singles.getD j 0 == s.getD pos 0) = false := by
              cases hb : (singles.getD j 0 == s.getD pos 0) with
              | false => rfl
              | true => exact absurd (by rw [eq_of_beq hb]) h39
            rw [h39] at hg
            simp only at hg
            exact ⟨j + 1, ⟨hg, by omega⟩, by simp only; omega, [], by simp, Nat.zero_le _, ⟨.str_eq rfl, .int_eq rfl, .str_eq rfl, .int_eq (by rw [w64] <;> omega), trivial⟩, trivial⟩
        · have h30 : j = 21 := by have q : ¬ (j : Int) < 21 := of_decide_eq_false h30; omega
          subst h30
          exact ⟨[], .str [], [], by simp, Nat.zero_le _, .str_eq rfl, trivial, by rw [← hg]; rfl, rfl⟩

end Go.Am
