/- The reference: Lex. (Printed by gen17.py.) -/
import Derived.Test.YtagfpmbccfghnaaDoorX16
set_option linter.unusedVariables false
set_option linter.unusedSimpArgs false
namespace Go.Am
open Go Go.RowKit Go.Proofs

theorem ink_lt : ∀ (l : List UInt8) (n : Nat), n ≤ ink l → (n < ink l ↔ n < l.length ∧ Lib.hasPrefix (l.drop n) [60, 63] = false)
  | [], n, h => by simp [ink] at h ⊢
  | c :: r, 0, h => by
    unfold ink
    cases hb : Lib.hasPrefix (c :: r) [60, 63] with
    | true => simp [hb]
    | false => simp [hb]
  | c :: r, n + 1, h => by
    unfold ink at h ⊢
    by_cases hp : Lib.hasPrefix (c :: r) [60, 63] = true
    · rw [if_pos hp] at h; omega
    · rw [if_neg hp] at h ⊢
      have := ink_lt r n (by omega)
      rw [Nat.add_lt_add_iff_right, this]
      simp
theorem nameLen_pos {s : List UInt8} {pos : Nat} (hp : pos < s.length) (h : nst (s.getD pos 0) = true) : 0 < nameLen (s.drop pos) := by
  have := cnt_lt pName (s.drop pos) 0 0 (Nat.zero_le _)
  refine this.2 ⟨by simp; omega, ?_⟩
  rw [getD_drop]
  unfold pName
  rw [Nat.add_zero, h]
  rfl
theorem stk_lt {s : List UInt8} {pos : Nat} (hp : pos < s.length) (h : (stk s pos).2.2 = 0) : pos < (stk s pos).2.1 := by
  unfold stk at h ⊢
  split at h
  · rename_i h1
    rw [if_pos h1]
    split at h
    · exact absurd (show (2 : Int) = 0 from h) (by decide)
    · rename_i h2; rw [if_neg h2]; simp only; omega
  · rename_i h1
    rw [if_neg h1]
    split at h
    · rename_i h2
      have := nameLen_pos hp h2
      rw [if_pos h2]; simp only; omega
    · rename_i h2
      rw [if_neg h2]
      split at h
      · rename_i h3
        have := digLen_pos hp h3
        rw [if_pos h3]
        cases hq : parseI ((s.drop pos).take (digLen (s.drop pos))) with
        | none => rw [hq] at h; exact absurd (show (4 : Int) = 0 from h) (by decide)
        | some v =>
          rw [hq] at h
          simp only [stN] at h ⊢
          split at h
          · rename_i h4; rw [if_pos h4]; simp only; omega
          · exact absurd (show (4 : Int) = 0 from h) (by decide)
      · rename_i h3
        rw [if_neg h3]
        split at h
        · rename_i h4
          rw [if_pos h4]
          cases hq : strGo ((s.drop pos).drop 1) [] 1 with
          | none => rw [hq] at h; exact absurd (show (3 : Int) = 0 from h) (by decide)
          | some q =>
            obtain ⟨a, n⟩ := q
            have q := strGo_le _ _ _ _ _ hq
            simp only [stS]; omega
        · rename_i h4
          rw [if_neg h4]
          cases hq : (marksI.find? fun m => Lib.hasPrefix (s.drop pos) m) with
          | none => rw [hq] at h; exact absurd (show (2 : Int) = 0 from h) (by decide)
          | some m =>
            have q' := marks_len m (List.mem_of_find?_eq_some hq)
            simp only [stM]; omega
/-- One turn of the reference's loop: in code or not, where, a fault's code, the tokens. -/
def stepS (s : List UInt8) (b : Bool) (pos : Nat) (ts : List Tk) : Bool × Nat × Int × List Tk :=
  if b = false then
    (if Lib.hasPrefix (s.drop (inlP s pos)) [60, 63, 61] = true then (decide (inlP s pos < s.length), inlP s pos + 3, 0, inlT s pos ts ++ [⟨3, 0, echo, inlP s pos⟩])
     else (decide (inlP s pos < s.length), inlP s pos + 2, 0, inlT s pos ts))
  else if Lib.hasPrefix (s.drop pos) [63, 62] = true then (false, semiEnd s pos, 0, ts ++ [Tk.mk 6 0 [59] pos])
  else if Lib.hasPrefix (s.drop pos) [47, 47] = true then (true, pos + cm (s.drop pos), 0, ts)
  else if isWs (s.getD pos 0) then (true, pos + 1, 0, ts)
  else if (stk s pos).2.2 = 0 then (true, (stk s pos).2.1, 0, ts ++ [(stk s pos).1])
  else (true, pos, (stk s pos).2.2, ts)
def lexS (s : List UInt8) : Nat → Bool × Nat × List Tk → LX
  | 0, x => (x.2.1, 0, x.2.2)
  | n + 1, x => if x.2.1 < s.length then
      (if (stepS s x.1 x.2.1 x.2.2).2.2.1 = 0 then lexS s n ((stepS s x.1 x.2.1 x.2.2).1, (stepS s x.1 x.2.1 x.2.2).2.1, (stepS s x.1 x.2.1 x.2.2).2.2.2)
       else ((stepS s x.1 x.2.1 x.2.2).2.1, (stepS s x.1 x.2.1 x.2.2).2.2.1, (stepS s x.1 x.2.1 x.2.2).2.2.2))
    else (x.2.1, 0, x.2.2)
theorem lexS_next {s : List UInt8} {n : Nat} {b b' : Bool} {pos p' : Nat} {ts ts' : List Tk} {R : LX} (h : lexS s (n + 1) (b, pos, ts) = R) (hp : pos < s.length) (e : stepS s b pos ts = (b', p', 0, ts')) : lexS s n (b', p', ts') = R := by
  unfold lexS at h
  simp only at h
  rw [if_pos hp, e] at h
  simpa using h
theorem lexS_bad {s : List UInt8} {n : Nat} {b b' : Bool} {pos p' : Nat} {c : Int} {ts ts' : List Tk} {R : LX} (h : lexS s (n + 1) (b, pos, ts) = R) (hp : pos < s.length) (hc : c ≠ 0) (e : stepS s b pos ts = (b', p', c, ts')) : R = (p', c, ts') := by
  unfold lexS at h
  simp only at h
  rw [if_pos hp, e, if_neg hc] at h
  exact h.symm
theorem lexS_end {s : List UInt8} {n : Nat} {b : Bool} {pos : Nat} {ts : List Tk} {R : LX} (h : lexS s n (b, pos, ts) = R) (hp : ¬ pos < s.length) : R = (pos, 0, ts) := by
  cases n with
  | zero => exact h.symm
  | succ n => unfold lexS at h; rw [if_neg hp] at h; exact h.symm
abbrev slT (T : List Tk) : PV := .slc 4 T.length (fun i => (tkAt T i).cells)
def lexSV (x : LX) : PV := if x.2.1 = 0 then .tup [slT x.2.2, .int .i64 0, .int .i64 0] else .tup [slT [], .int .i64 x.2.1, .int .i64 x.1]
abbrev rowT (T : List Tk) : AObj := .row 0 4 T.length 33 (fun i => (tkAt T i).cells)
theorem tokStep (f : Nat → List PV) (T : List Tk) (t : Tk) (q : Nat → List PV) (n : Nat) (hn : n = T.length) (hf : ∀ i, i < n → f (0 + i) = (tkAt T i).cells) (hq : q 0 = t.cells) (j : Nat) (hj : j < n + 1) :
    (bif Nat.blt j n then f (0 + j) else q (0 + (j - n))) = (tkAt (T ++ [t]) j).cells := by
  subst hn
  have et := tkAt_snoc T t j hj
  by_cases hil : j < T.length
  · have e : Nat.blt j T.length = true := by simpa [Nat.blt_eq] using hil
    rw [if_pos hil] at et
    rw [e, cond_true, hf j hil, et]
  · have e : Nat.blt j T.length = false := by
      cases hb : Nat.blt j T.length with
      | false => rfl
      | true => exact absurd (Nat.le_of_ble_eq_true hb) (by omega)
    have e2 : j - T.length = 0 := by omega
    rw [if_neg hil] at et
    rw [e, cond_false, e2, Nat.zero_add, hq, et]
theorem fzTok {h η : List AObj} {k : List Nat} {a : List PV} {t : Tk} (e : a = t.cells) : FzL h η k a t.cells := by subst e; exact ⟨.int_eq rfl, .int_eq rfl, .str_eq rfl, .int_eq rfl, trivial⟩
theorem lexS_len {s : List UInt8} {b : Bool} {pos : Nat} {ts : List Tk} : (inlT s pos ts).length ≤ ts.length + 1 := inlT_le s pos ts

end Go.Am
