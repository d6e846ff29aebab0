/- The implementation of Lex. (Printed by gen11.py.) -/
import Derived.Test.YtagfpmbccfghnaaDoorX10
set_option linter.unusedVariables false
set_option linter.unusedSimpArgs false
namespace Go.Am
open Go Go.RowKit Go.Proofs

abbrev LX := Nat × Int × List Tk
abbrev LHx (s : List UInt8) (x : LX) : List AObj := LH s x.1 x.2.1 x.2.2
def inlX (s : List UInt8) (pos : Nat) (ts : List Tk) : LX :=
  if inlP s pos = s.length then (inlP s pos, 0, inlT s pos ts)
  else if Lib.hasPrefix (s.drop (inlP s pos)) [60, 63, 61] = true then (inlP s pos + 3, 0, inlT s pos ts ++ [⟨3, 0, echo, inlP s pos⟩])
  else (inlP s pos + 2, 0, inlT s pos ts)
def numX (pos : Nat) (ts : List Tk) (n : Nat) : Option Int → LX
  | none => (pos, 4, ts)
  | some v => (pos + n, 0, ts ++ [Tk.mk 4 v [] pos])
def textX (pos : Nat) (ts : List Tk) : Option (List UInt8 × Nat) → LX
  | none => (pos, 3, ts)
  | some (a, n) => (pos + n, 0, ts ++ [Tk.mk 5 0 a pos])
def markX (pos : Nat) (ts : List Tk) : Option (List UInt8) → LX
  | none => (pos, 2, ts)
  | some m => (pos + m.length, 0, ts ++ [⟨6, 0, m, pos⟩])
/-- One token. -/
def tokX (s : List UInt8) (pos : Nat) (ts : List Tk) : LX :=
  if isWs (s.getD pos 0) then (pos + 1, 0, ts)
  else if Lib.hasPrefix (s.drop pos) [63, 62] = true then inlX s (semiEnd s pos) (ts ++ [Tk.mk 6 0 [59] pos])
  else if Lib.hasPrefix (s.drop pos) [47, 47] = true then (pos + cm (s.drop pos), 0, ts)
  else if (s.getD pos 0).toNat = 36 then
    (if nameLen ((s.drop pos).drop 1) = 0 then (pos, 2, ts) else (pos + (1 + nameLen ((s.drop pos).drop 1)), 0, ts ++ [Tk.mk 2 0 (((s.drop pos).take (1 + nameLen ((s.drop pos).drop 1))).drop 1) pos]))
  else if 0 < nameLen (s.drop pos) then (pos + nameLen (s.drop pos), 0, ts ++ [Tk.mk 3 0 ((s.drop pos).take (nameLen (s.drop pos))) pos])
  else if dig (s.getD pos 0) = true then numX pos ts (digLen (s.drop pos)) (pw ((s.drop pos).take (digLen (s.drop pos))) (-1000000000) 1000000000)
  else if (s.getD pos 0).toNat = 39 then textX pos ts (strGo ((s.drop pos).drop 1) [] 1)
  else markX pos ts (marksI.find? fun m => Lib.hasPrefix (s.drop pos) m)

theorem strGo_le : ∀ (l acc : List UInt8) (i : Nat) (a : List UInt8) (j : Nat), strGo l acc i = some (a, j) → i < j ∧ j ≤ i + l.length
  | [], acc, i, a, j, h => by simp [strGo] at h
  | [c], acc, i, a, j, h => by
    unfold strGo at h
    split at h
    · split at h
      · cases h
      · simp at h; simp; omega
    · cases h
  | c :: d :: r, acc, i, a, j, h => by
    unfold strGo at h
    split at h
    · split at h
      · cases h
      · simp at h; simp; omega
    · split at h
      · have := strGo_le _ _ _ _ _ h; simp; omega
      · have := strGo_le _ _ _ _ _ h; simp at this ⊢; omega
theorem inlT_le (s : List UInt8) (pos : Nat) (ts : List Tk) : (inlT s pos ts).length ≤ ts.length + 1 := by
  unfold inlT; split <;> simp
theorem inlX_ok (s : List UInt8) (pos : Nat) (ts : List Tk) : inlH s pos ts = LHx s (inlX s pos ts) ∧ (inlX s pos ts).2.2.length ≤ ts.length + 2 ∧ pos ≤ (inlX s pos ts).1 ∧ (inlX s pos ts).2.1 = 0 := by
  have h := inlT_le s pos ts
  have hp : pos ≤ inlP s pos := by unfold inlP; omega
  unfold inlH inlX
  split
  · exact ⟨rfl, by simp only; omega, by simp only; omega, rfl⟩
  · split
    · exact ⟨rfl, by simp only [List.length_append, List.length_cons, List.length_nil]; omega, by simp only; omega, rfl⟩
    · exact ⟨rfl, by simp only; omega, by simp only; omega, rfl⟩
theorem cm_pos {s : List UInt8} (h : Lib.hasPrefix s [47, 47] = true) : 0 < cm s := by
  cases s with
  | nil => simp [Lib.hasPrefix] at h
  | cons c r =>
    have hc : c = 47 := by
      have h' : [47, 47].isPrefixOf (c :: r) = true := h
      simp [List.isPrefixOf] at h'
      exact h'.1.symm
    subst hc
    unfold cm
    rw [if_neg]
    · omega
    · rintro (q | q)
      · exact absurd q (by decide)
      · have h' : [63, 62].isPrefixOf ((47 : UInt8) :: r) = true := q
        simp [List.isPrefixOf] at h'
theorem digLen_pos {s : List UInt8} {pos : Nat} (hp : pos < s.length) (h : dig (s.getD pos 0) = true) : 0 < digLen (s.drop pos) := by
  have := cnt_lt (fun _ c => dig c) (s.drop pos) 0 0 (Nat.zero_le _)
  refine this.2 ⟨by simp; omega, ?_⟩
  show dig _ = true
  rw [getD_drop]; exact h
theorem marks_len : ∀ m ∈ marksI, 0 < m.length ∧ m.length ≤ 3 := by decide
/-- What a token is good for: the heap it makes, and that it goes on. -/
theorem tokX_ok (s : List UInt8) (pos : Nat) (ts : List Tk) (hp : pos < s.length) (hs : s.length ≤ 100000) :
    tokH s pos ts = LHx s (tokX s pos ts) ∧ (tokX s pos ts).2.2.length ≤ ts.length + 3 ∧ pos ≤ (tokX s pos ts).1 ∧ ((tokX s pos ts).2.1 = 0 → pos < (tokX s pos ts).1) := by
  unfold tokH tokX
  split
  · exact ⟨rfl, by simp, by simp, fun _ => by simp⟩
  split
  · have q := inlX_ok s (semiEnd s pos) (ts ++ [Tk.mk 6 0 [59] pos])
    have q2 : pos + 2 ≤ semiEnd s pos := by unfold semiEnd; split <;> omega
    have q3 := q.2.1
    simp only [List.length_append, List.length_cons, List.length_nil] at q3
    exact ⟨q.1, by omega, by have := q.2.2.1; omega, fun _ => by have := q.2.2.1; omega⟩
  split
  · rename_i h
    have := cm_pos h
    exact ⟨rfl, by simp, by simp, fun _ => by simp only; omega⟩
  split
  · split
    · exact ⟨rfl, by simp, by simp, fun h => absurd (show (2 : Int) = 0 from h) (by decide)⟩
    · exact ⟨rfl, by simp, by simp, fun h => by simp only; omega⟩
  split
  · exact ⟨rfl, by simp, by simp, fun h => by simp only; omega⟩
  split
  · rename_i h
    have q := digLen_pos hp h
    cases pw ((s.drop pos).take (digLen (s.drop pos))) (-1000000000) 1000000000 with
    | none => exact ⟨rfl, by simp [numX], by simp [numX], fun h => absurd (show (4 : Int) = 0 from h) (by decide)⟩
    | some v => exact ⟨rfl, by simp [numX], by simp [numX], fun h => by simp only [numX]; omega⟩
  split
  · cases hg : strGo ((s.drop pos).drop 1) [] 1 with
    | none => exact ⟨rfl, by simp [textX], by simp [textX], fun h => absurd (show (3 : Int) = 0 from h) (by decide)⟩
    | some q =>
      obtain ⟨a, n⟩ := q
      have q := strGo_le _ _ _ _ _ hg
      simp only [List.length_drop] at q
      refine ⟨?_, by simp [textX], by simp [textX], fun h => by simp only [textX]; omega⟩
      have e : IntKind.i64.wrap ((pos : Int) + (n : Int)) = ((pos + n : Nat) : Int) := by rw [w64] <;> omega
      show textH _ _ _ _ = _
      unfold textH
      show LH s (IntKind.i64.wrap ((pos : Int) + (n : Int))) 0 _ = _
      rw [e]
      rfl
  · cases hg : marksI.find? fun m => Lib.hasPrefix (s.drop pos) m with
    | none => exact ⟨rfl, by simp [markX], by simp [markX], fun h => absurd (show (2 : Int) = 0 from h) (by decide)⟩
    | some q =>
      have q' := marks_len q (List.mem_of_find?_eq_some hg)
      refine ⟨?_, by simp [markX], by simp [markX], fun h => by simp only [markX]; omega⟩
      have e : IntKind.i64.wrap ((pos : Int) + (q.length : Int)) = ((pos + q.length : Nat) : Int) := by rw [w64] <;> omega
      show LH s (IntKind.i64.wrap ((pos : Int) + (q.length : Int))) 0 _ = _
      rw [e]
      rfl

/-- The loop, by fuel. -/
def lexR (s : List UInt8) : Nat → LX → LX
  | 0, x => x
  | n + 1, x => if x.2.1 = 0 ∧ x.1 < s.length then lexR s n (tokX s x.1 x.2.2) else x
theorem lexR_stop {s : List UInt8} {x : LX} (h : ¬ (x.2.1 = 0 ∧ x.1 < s.length)) : ∀ n, lexR s n x = x
  | 0 => rfl
  | n + 1 => by unfold lexR; rw [if_neg h]
def lexI (s : List UInt8) : LX := lexR s s.length (inlX s 0 [])
def tkV : List Tk → PV
  | [] => .nils
  | t :: ts => .slc 4 (ts.length + 1) (fun i => (tkAt (t :: ts) i).cells)
def lexV (x : LX) : PV := if x.2.1 = 0 then .tup [tkV x.2.2, .int .i64 0, .int .i64 0] else .tup [.nils, .int .i64 x.2.1, .int .i64 x.1]
def ownOf : List Tk → PV
  | [] => .nils
  | _ :: ts => .own 1 ts.length 0 (ts.length + 1)
def rowOf : List Tk → List AObj
  | [] => []
  | t :: ts => [.row ts.length 4 (ts.length + 1) 33 (fun i => (tkAt (t :: ts) i).cells)]
def LHy (s : List UInt8) (x : LX) : List AObj := lexO s x.1 (ownOf x.2.2) x.2.1 :: rowOf x.2.2
theorem LH_eq (s : List UInt8) (p : Nat) (c : Int) (T : List Tk) : LH s p c T = LHy s (p, c, T) := by cases T <;> rfl
theorem taken_LH {env : Env} {s : List UInt8} (x : LX) (h0 : env 0 = .str s) (h5 : env 5 = .optr 0 0 0 0) : Taken 0 env (LHy s x) [(0, .str s), (5, .optr 0 0 0 0)] (LHy s x) := by
  obtain ⟨p, c, T⟩ := x
  cases T with
  | nil => exact ⟨[0], by simp, Nat.zero_le _, ⟨by rw [h0]; exact .str_eq rfl, by rw [h5]; exact .optr_eq rfl ⟨_, _, _, _, rfl⟩ ⟨_, _, _, _, rfl⟩ rfl rfl, trivial⟩, ⟨⟨fun h => absurd h (by decide), rfl, rfl, rfl, fun i hi => ⟨.str_eq rfl, .int_eq rfl, .nils, .int_eq rfl, trivial⟩⟩, trivial⟩⟩
  | cons t ts => exact ⟨[0, 1], by simp, Nat.zero_le _, ⟨by rw [h0]; exact .str_eq rfl, by rw [h5]; exact .optr_eq rfl ⟨_, _, _, _, rfl⟩ ⟨_, _, _, _, rfl⟩ rfl rfl, trivial⟩, ⟨⟨fun h => absurd h (by decide), rfl, rfl, rfl, fun i hi => ⟨.str_eq rfl, .int_eq rfl, .own_eq rfl ⟨_, _, _, _, rfl⟩ ⟨_, _, _, _, rfl⟩ rfl rfl, .int_eq rfl, trivial⟩⟩, ⟨fun h => absurd h (by decide), rfl, rfl, rfl, fun i hi => ⟨.int_eq rfl, .int_eq rfl, .str_eq rfl, .int_eq rfl, trivial⟩⟩, trivial⟩⟩

theorem endLex (s : List UInt8) (x : LX) (hx : x = lexI s) (hc : x.2.1 = 0) (h8 : s.length ≤ 4000) :
    Ends 0 (fun res h => res = (if 4000 < s.length then .tup [.nils, .int .i64 1, .int .i64 0] else lexV (lexI s)) ∧ h = []) (LHy s x) [ownOf x.2.2, .int .i64 0, .int .i64 0] := by
  obtain ⟨p, c, T⟩ := x
  have e : lexV (lexI s) = .tup [tkV T, .int .i64 0, .int .i64 0] := by rw [← hx]; unfold lexV; rw [if_pos hc]
  rw [if_neg (by omega), e]
  cases T with
  | nil => exact ⟨[], .tup [.nils, .int .i64 0, .int .i64 0], [], by simp, Nat.zero_le _, .tup_l ⟨.nils, .int_eq rfl, .int_eq rfl, trivial⟩, trivial, rfl, rfl⟩
  | cons t ts => exact ⟨[], .tup [.slc 4 (ts.length + 1) (fun i => (tkAt (t :: ts) i).cells), .int .i64 0, .int .i64 0], [], by simp, Nat.zero_le _, .tup_l ⟨.frz_eq (by simp) rfl rfl rfl (fun i hi => rfl) (fun i hi => ⟨.int_eq (by rw [Nat.zero_add]), .int_eq (by rw [Nat.zero_add]), .str_eq (by rw [Nat.zero_add]), .int_eq (by rw [Nat.zero_add]), trivial⟩), .int_eq rfl, .int_eq rfl, trivial⟩, trivial, rfl, rfl⟩

theorem implLex_ok (s : List UInt8) : ACall Tryd.prog 8 [.str s] [] (fun res h => res = (if 4000 < s.length then .tup [.nils, .int .i64 1, .int .i64 0] else lexV (lexI s)) ∧ h = []) := by
  refine ACall.of_vc tabL_ok mixed Tryd.func8 rfl (by kernel_rfl) _ _ _ rfl (by kernel_rfl) ?_
  refine splitB.mk (fun h8 => ?_) (fun h8 => ?_)
  · have h8 : 4000 < s.length := by have q := of_decide_eq_true h8; omega
    exact ⟨[], .tup [.nils, .int .i64 1, .int .i64 0], [], by simp, Nat.zero_le _, .tup_l ⟨.nils, .int_eq rfl, .int_eq rfl, trivial⟩, trivial, by rw [if_pos h8], rfl⟩
  · have h8 : s.length ≤ 4000 := by have q := of_decide_eq_false h8; omega
    refine ⟨rfl, ?_⟩
    have qi := inlX_ok s 0 []
    have ei : inlH s 0 [] = LHy s (inlX s 0 []) := by rw [qi.1]; exact LH_eq _ _ _ _
    refine ⟨_, ((inl_ok s 0 [] (by simp) (by omega) (by omega)).mono (fun _ h hh => show h = LHy s (inlX s 0 []) from by rw [hh, ei])).heq ⟨⟨rfl, rfl, rfl, rfl, fun i hi => by obtain rfl : i = 0 := (by omega); rfl⟩, trivial⟩, ?_⟩
    rintro _ _ rfl
    refine LoopVC.mk LX (fun _ => [(0, .str s), (5, .optr 0 0 0 0)]) (fun x => LHy s x) (fun x => (x.2.1 = 0 → x.2.2.length ≤ 3 * x.1 + 2) ∧ ∃ n, lexR s n x = lexI s ∧ (x.2.1 = 0 → s.length ≤ x.1 + n)) (fun x => 2 * (s.length - x.1) + (if x.2.1 = 0 then 1 else 0)) (inlX s 0 []) ⟨fun _ => by have := qi.2.1; simp at this; omega, s.length, rfl, fun _ => by omega⟩ ?_ (fun x ok => ?_)
    · exact taken_LH _ rfl rfl
    · obtain ⟨ok1, n, hR, ok2⟩ := ok
      iterate 2 refine ⟨rfl, ?_⟩
      refine splitB.mk (fun h15 => ?_) (fun h15 => ?_)
      · refine ⟨rfl, ?_⟩
        refine splitB.mk (fun _ => ?_) (fun h => absurd h (by decide))
        refine ⟨rfl, ?_⟩
        iterate 4 refine splitB.mk (fun _ => ?_) (fun h => absurd h (by decide))
        refine splitB.mk (fun h21 => ?_) (fun h21 => ?_)
        · have hp : x.1 < s.length := by have q := of_decide_eq_true h21; omega
          have hc0 : x.2.1 = 0 := eq_of_beq h15
          have q := tokX_ok s x.1 x.2.2 hp (by omega)
          have q1 := ok1 hc0
          have ct := token_ok s x.1 x.2.2 (by omega) hp (by omega)
          have ex : LHy s x = LH s x.1 0 x.2.2 := by (rw [LH_eq]; obtain ⟨p, c, T⟩ := x; have e : c = 0 := hc0; rw [e])
          have ey : tokH s x.1 x.2.2 = LHy s (tokX s x.1 x.2.2) := by rw [q.1]; exact LH_eq _ _ _ _
          rw [← ex, ey] at ct
          obtain ⟨n, rfl⟩ : ∃ n', n = n' + 1 := ⟨n - 1, by have := ok2 hc0; omega⟩
          have hR2 : lexR s n (tokX s x.1 x.2.2) = lexI s := by unfold lexR at hR; rw [if_pos ⟨hc0, hp⟩] at hR; exact hR
          refine ⟨_, ct, ?_⟩
          rintro _ _ rfl
          exact ⟨tokX s x.1 x.2.2, ⟨fun h => by have := q.2.2.2 h; have := q.2.1; omega, n, hR2, fun h => by have := q.2.2.2 h; have := ok2 hc0; omega⟩, by (have q3 := q.2.2.1; have q4 := q.2.2.2; simp only; rw [if_pos hc0]; by_cases h : (tokX s x.1 x.2.2).2.1 = 0; (rw [if_pos h]; have := q4 h; omega); (rw [if_neg h]; omega)), taken_LH _ rfl rfl⟩
        · have hst : ¬ (x.2.1 = 0 ∧ x.1 < s.length) := fun h => by have q := of_decide_eq_false h21; have := h.2; omega
          have hx : x = lexI s := by rw [← hR, lexR_stop hst]
          refine ⟨rfl, rfl, ?_⟩
          refine splitB.mk (fun h25 => ?_) (fun h25 => ?_)
          · have hc : x.2.1 ≠ 0 := by simpa using h25
            refine ⟨rfl, rfl, rfl, rfl, ?_⟩
            exact ⟨[], .tup [.nils, .int .i64 x.2.1, .int .i64 x.1], [], by simp, Nat.zero_le _, .tup_l ⟨.nils, .int_eq rfl, .int_eq rfl, trivial⟩, trivial, by rw [if_neg (by omega), ← hx]; unfold lexV; rw [if_neg hc], rfl⟩
          · have hc : x.2.1 = 0 := by simpa using h25
            refine ⟨rfl, rfl, ?_⟩
            obtain ⟨p, c, T⟩ := x
            cases T with
            | nil => exact endLex s (p, c, []) hx hc h8
            | cons t ts => exact endLex s (p, c, t :: ts) hx hc h8
      · refine splitB.mk (fun h => absurd h (by decide)) (fun _ => ?_)
        iterate 5 refine splitB.mk (fun h => absurd h (by decide)) (fun _ => ?_)
        have hst : ¬ (x.2.1 = 0 ∧ x.1 < s.length) := fun h => absurd h.1 (ne_of_beq_false h15)
        have hx : x = lexI s := by rw [← hR, lexR_stop hst]
        refine ⟨rfl, rfl, ?_⟩
        refine splitB.mk (fun h25 => ?_) (fun h25 => ?_)
        · have hc : x.2.1 ≠ 0 := by simpa using h25
          refine ⟨rfl, rfl, rfl, rfl, ?_⟩
          exact ⟨[], .tup [.nils, .int .i64 x.2.1, .int .i64 x.1], [], by simp, Nat.zero_le _, .tup_l ⟨.nils, .int_eq rfl, .int_eq rfl, trivial⟩, trivial, by rw [if_neg (by omega), ← hx]; unfold lexV; rw [if_neg hc], rfl⟩
        · have hc : x.2.1 = 0 := by simpa using h25
          refine ⟨rfl, rfl, ?_⟩
          obtain ⟨p, c, T⟩ := x
          cases T with
          | nil => exact endLex s (p, c, []) hx hc h8
          | cons t ts => exact endLex s (p, c, t :: ts) hx hc h8

end Go.Am
