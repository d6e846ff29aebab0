/- The plain law: the reference's Lex and the implementation's agree. -/
import Derived.Test.YtagfpmbccfghnaaDoorX18
import Derived.Lib.AtoiTie
set_option linter.unusedVariables false
set_option linter.unusedSimpArgs false
namespace Go.Am
open Go Go.RowKit Go.Proofs

theorem itoa_short {n : Int} (h0 : -1000000000 ≤ n) (h1 : n ≤ 1000000000) : (Lib.itoa n).length ≤ 11 := by
  unfold Lib.itoa
  split
  · simp only [List.length_cons]
    rw [Lib.decDigits_length]
    have := nDig_le 9 n.natAbs (by simp only [Nat.reduceAdd, Nat.reducePow]; omega)
    omega
  · rw [Lib.decDigits_length]
    have := nDig_le 9 n.toNat (by simp only [Nat.reduceAdd, Nat.reducePow]; omega)
    omega
theorem dig_range {c : UInt8} (h : dig c = true) : 48 ≤ c.toNat ∧ c.toNat ≤ 57 := by
  unfold dig at h
  simpa using h
/-- What the reference makes of a row of digits. -/
def num9 : Option Nat → Option Int
  | some v => if v ≤ 1000000000 then some (v : Int) else none
  | none => none
theorem num_eq (c : UInt8) (r : List UInt8) (hc : dig c = true) : pw (c :: r) (-1000000000) 1000000000 = num9 (parseI (c :: r)) := by
  by_cases hl : (c :: r).length ≤ 13
  · have h1 := dig_range hc
    have ea : Lib.atoi (c :: r) = (Lib.decFrom 0 (c :: r)).map fun (m : Nat) => (m : Int) := by
      show (if c == 45 then _ else if c == 43 then _ else (Lib.decNat (c :: r)).map fun (m : Nat) => (m : Int)) = _
      rw [if_neg, if_neg]
      · rfl
      · rw [beq_iff_eq]; intro h; subst h; exact absurd h1.1 (by decide)
      · rw [beq_iff_eq]; intro h; subst h; exact absurd h1.1 (by decide)
    have eP : parseI (c :: r) = piOf (c :: r) (Lib.decFrom 0 (c :: r)) := by unfold parseI; rw [if_pos ⟨by simp, hl⟩]
    have eA := Lib.atoiAll_short (c :: r) (by omega)
    rw [ea] at eA
    rw [eP]
    unfold pw
    rw [if_neg (by omega), eA]
    cases hd : Lib.decFrom 0 (c :: r) with
    | none => rfl
    | some v =>
      show (if Lib.itoa (v : Int) = c :: r ∧ (-1000000000 : Int) ≤ v ∧ (v : Int) ≤ 1000000000 then some (v : Int) else none) = num9 (if v ≤ 1000000000000 ∧ Lib.decDigits v = c :: r then some v else none)
      rw [Lib.itoa_nonneg]
      by_cases h2 : Lib.decDigits v = c :: r
      · by_cases h3 : v ≤ 1000000000
        · rw [if_pos ⟨h2, by omega, by omega⟩, if_pos ⟨by omega, h2⟩]
          show _ = if v ≤ 1000000000 then some (v : Int) else none
          rw [if_pos h3]
        · rw [if_neg (fun h => h3 (by have := h.2.2; omega))]
          by_cases h4 : v ≤ 1000000000000
          · rw [if_pos ⟨h4, h2⟩]
            show _ = if v ≤ 1000000000 then some (v : Int) else none
            rw [if_neg h3]
          · rw [if_neg (fun h => h4 h.1)]; rfl
      · rw [if_neg (fun h => h2 h.1), if_neg (fun h => h2 h.2)]; rfl
  · have eP : parseI (c :: r) = none := by unfold parseI; rw [if_neg (fun h => hl h.2)]
    rw [eP]
    unfold pw
    split
    · rfl
    · split
      · rename_i n hn
        rw [if_neg]
        · rfl
        · intro h
          have := itoa_short h.2.1 h.2.2
          rw [h.1] at this
          omega
      · rfl

theorem nameLen_zero {s : List UInt8} {pos : Nat} (h : ¬ nst (s.getD pos 0) = true) : ¬ 0 < nameLen (s.drop pos) := by
  intro h0
  have := (cnt_lt pName (s.drop pos) 0 0 (Nat.zero_le _)).1 h0
  rw [getD_drop, Nat.add_zero] at this
  have q := this.2
  unfold pName at q
  simp at q
  exact h q
/-- One token, of both. -/
theorem tok_stk (s : List UInt8) (pos : Nat) (T : List Tk) (hp : pos < s.length) (h1 : ¬ isWs (s.getD pos 0)) (h2 : ¬ Lib.hasPrefix (s.drop pos) [63, 62] = true) (h3 : ¬ Lib.hasPrefix (s.drop pos) [47, 47] = true) :
    tokX s pos T = (if (stk s pos).2.2 = 0 then ((stk s pos).2.1, 0, T ++ [(stk s pos).1]) else (pos, (stk s pos).2.2, T)) := by
  unfold tokX
  rw [if_neg h1, if_neg h2, if_neg h3]
  unfold stk
  by_cases h4 : (s.getD pos 0).toNat = 36
  · rw [if_pos h4, if_pos h4, List.drop_drop]
    by_cases h5 : nameLen (s.drop (pos + 1)) = 0
    · rw [if_pos h5, if_pos h5]; rfl
    · rw [if_neg h5, if_neg h5, if_pos rfl]
      have e : ((s.drop pos).take (1 + nameLen (s.drop (pos + 1)))).drop 1 = (s.drop (pos + 1)).take (nameLen (s.drop (pos + 1))) := by rw [cut_eq, List.drop_drop]
      rw [e, ← Nat.add_assoc]
  · rw [if_neg h4, if_neg h4]
    by_cases h5 : nst (s.getD pos 0) = true
    · rw [if_pos (nameLen_pos hp h5), if_pos h5, if_pos rfl]
    · rw [if_neg (nameLen_zero h5), if_neg h5]
      by_cases h6 : dig (s.getD pos 0) = true
      · rw [if_pos h6, if_pos h6]
        have hq := digLen_pos hp h6
        obtain ⟨c, r, hd⟩ : ∃ c r, (s.drop pos).take (digLen (s.drop pos)) = c :: r := by
          cases hd : (s.drop pos).take (digLen (s.drop pos)) with
          | nil =>
            have q := congrArg List.length hd
            simp only [List.length_take, List.length_drop, List.length_nil] at q
            omega
          | cons c r => exact ⟨c, r, rfl⟩
        have hc : c = s.getD pos 0 := by
          have q := congrArg (fun l => List.getD l 0 0) hd
          simp only [List.getD_eq_getElem?_getD, List.getElem?_take, List.getElem?_drop, Nat.add_zero, if_pos hq, List.getElem?_cons_zero, Option.getD_some] at q
          rw [List.getD_eq_getElem?_getD]
          exact q.symm
        rw [hd, num_eq c r (by rw [hc]; exact h6)]
        cases parseI (c :: r) with
        | none => rfl
        | some v =>
          show numX pos T _ (if v ≤ 1000000000 then some (v : Int) else none) = _
          by_cases h7 : v ≤ 1000000000
          · rw [if_pos h7, show stN pos (digLen (s.drop pos)) (some v) = (⟨4, v, [], pos⟩, pos + digLen (s.drop pos), 0) by simp only [stN]; rw [if_pos h7]]; rfl
          · rw [if_neg h7, show stN pos (digLen (s.drop pos)) (some v) = (⟨0, 0, [], pos⟩, pos, 4) by simp only [stN]; rw [if_neg h7]]; rfl
      · rw [if_neg h6, if_neg h6]
        by_cases h7 : (s.getD pos 0).toNat = 39
        · rw [if_pos h7, if_pos h7]
          cases strGo ((s.drop pos).drop 1) [] 1 with
          | none => rfl
          | some q => obtain ⟨a, n⟩ := q; rfl
        · rw [if_neg h7, if_neg h7]
          cases (marksI.find? fun m => Lib.hasPrefix (s.drop pos) m) with
          | none => rfl
          | some m => rfl

def agree (a b : LX) : Prop := a.2.1 = b.2.1 ∧ (a.2.1 ≠ 0 → a.1 = b.1) ∧ (a.2.1 = 0 → a.2.2 = b.2.2)
theorem ws_not {s : List UInt8} {pos : Nat} (hp : pos < s.length) (h : isWs (s.getD pos 0)) (p : List UInt8) (c : UInt8) (hc : ¬ isWs c) : ¬ Lib.hasPrefix (s.drop pos) (c :: p) = true := by
  intro q
  rw [drop_get hp] at q
  have q' : (c :: p).isPrefixOf (s.getD pos 0 :: s.drop (pos + 1)) = true := q
  simp only [List.isPrefixOf, Bool.and_eq_true, beq_iff_eq] at q'
  rw [← q'.1] at h
  exact hc h
theorem lexR_step {s : List UInt8} {m pos : Nat} {T : List Tk} (hp : pos < s.length) : lexR s (m + 1) (pos, 0, T) = lexR s m (tokX s pos T) := by
  conv => lhs; unfold lexR
  rw [if_pos ⟨rfl, hp⟩]
theorem lexS_go {s : List UInt8} {n : Nat} {b b' : Bool} {pos p' : Nat} {ts ts' : List Tk} (hp : pos < s.length) (e : stepS s b pos ts = (b', p', 0, ts')) : lexS s (n + 1) (b, pos, ts) = lexS s n (b', p', ts') := (lexS_next rfl hp e).symm
theorem lex_agree (s : List UInt8) : ∀ n : Nat,
    (∀ pos T m, s.length ≤ pos + n → s.length ≤ pos + m → agree (lexS s n (true, pos, T)) (lexR s m (pos, 0, T))) ∧
    (∀ pos T m, pos ≤ s.length → s.length ≤ pos + n → s.length ≤ pos + m → agree (lexS s n (false, pos, T)) (lexR s m (inlX s pos T))) := by
  intro n
  induction n with
  | zero =>
    refine ⟨fun pos T m h1 h2 => ?_, fun pos T m h0 h1 h2 => ?_⟩
    · rw [lexR_stop (fun h => by have := h.2; simp only at this; omega)]
      exact ⟨rfl, fun _ => rfl, fun _ => rfl⟩
    · have hk : ink (s.drop pos) = 0 := by rw [List.drop_eq_nil_of_le (by omega)]; rfl
      have e : inlX s pos T = (pos, 0, T) := by
        unfold inlX
        have e1 : inlP s pos = pos := by unfold inlP; omega
        have e2 : inlT s pos T = T := by unfold inlT; rw [hk]; rfl
        rw [e1, e2, if_pos (by omega)]
      rw [e, lexR_stop (fun h => by have := h.2; simp only at this; omega)]
      exact ⟨rfl, fun _ => rfl, fun _ => rfl⟩
  | succ n ih =>
    refine ⟨fun pos T m h1 h2 => ?_, fun pos T m h0 h1 h2 => ?_⟩
    · by_cases hp : pos < s.length
      · obtain ⟨m, rfl⟩ : ∃ m', m = m' + 1 := ⟨m - 1, by omega⟩
        rw [lexR_step hp]
        by_cases hw : isWs (s.getD pos 0)
        · have e1 := ws_not hp hw [62] 63 (by decide)
          have e2 := ws_not hp hw [47] 47 (by decide)
          rw [lexS_go hp (show stepS s true pos T = (true, pos + 1, 0, T) by unfold stepS; rw [if_neg (by decide), if_neg e1, if_neg e2, if_pos hw]),
            show tokX s pos T = (pos + 1, 0, T) by unfold tokX; rw [if_pos hw]]
          exact ih.1 _ _ _ (by omega) (by omega)
        · by_cases h3 : Lib.hasPrefix (s.drop pos) [63, 62] = true
          · have hl2 : pos + 2 ≤ s.length := by have := pre_len h3; simp at this; omega
            have hE : pos + 2 ≤ semiEnd s pos ∧ semiEnd s pos ≤ s.length := by unfold semiEnd; split <;> omega
            rw [lexS_go hp (show stepS s true pos T = (false, semiEnd s pos, 0, T ++ [Tk.mk 6 0 [59] pos]) by unfold stepS; rw [if_neg (by decide), if_pos h3]),
              show tokX s pos T = inlX s (semiEnd s pos) (T ++ [Tk.mk 6 0 [59] pos]) by unfold tokX; rw [if_neg hw, if_pos h3]]
            exact ih.2 _ _ _ (by omega) (by omega) (by omega)
          · by_cases h4 : Lib.hasPrefix (s.drop pos) [47, 47] = true
            · have hk0 := cm_pos h4
              rw [lexS_go hp (show stepS s true pos T = (true, pos + cm (s.drop pos), 0, T) by unfold stepS; rw [if_neg (by decide), if_neg h3, if_pos h4]),
                show tokX s pos T = (pos + cm (s.drop pos), 0, T) by unfold tokX; rw [if_neg hw, if_neg h3, if_pos h4]]
              exact ih.1 _ _ _ (by omega) (by omega)
            · rw [tok_stk s pos T hp hw h3 h4]
              by_cases hc : (stk s pos).2.2 = 0
              · have hlt := stk_lt hp hc
                rw [lexS_go hp (show stepS s true pos T = (true, (stk s pos).2.1, 0, T ++ [(stk s pos).1]) by unfold stepS; rw [if_neg (by decide), if_neg h3, if_neg h4, if_neg hw, if_pos hc]), if_pos hc]
                exact ih.1 _ _ _ (by omega) (by omega)
              · have e := lexS_bad (n := n) rfl hp hc (show stepS s true pos T = (true, pos, (stk s pos).2.2, T) by unfold stepS; rw [if_neg (by decide), if_neg h3, if_neg h4, if_neg hw, if_neg hc])
                rw [e, if_neg hc, lexR_stop (fun h => hc h.1)]
                exact ⟨rfl, fun _ => rfl, fun _ => rfl⟩
      · rw [lexS_end rfl hp, lexR_stop (fun h => hp h.2)]
        exact ⟨rfl, fun _ => rfl, fun _ => rfl⟩
    · have hik := ink_le (s.drop pos)
      simp only [List.length_drop] at hik
      by_cases hp : pos < s.length
      · by_cases hP : inlP s pos = s.length
        · have e3 : ¬ Lib.hasPrefix (s.drop (inlP s pos)) [60, 63, 61] = true := by rw [List.drop_eq_nil_of_le (by omega)]; decide
          rw [lexS_go hp (show stepS s false pos T = (decide (inlP s pos < s.length), inlP s pos + 2, 0, inlT s pos T) by unfold stepS; rw [if_pos rfl, if_neg e3]),
            lexS_end rfl (by omega), show inlX s pos T = (inlP s pos, 0, inlT s pos T) by unfold inlX; rw [if_pos hP], lexR_stop (fun h => by have := h.2; simp only at this; omega)]
          exact ⟨rfl, fun h => absurd rfl h, fun _ => rfl⟩
        · have hP2 : inlP s pos < s.length ∧ pos ≤ inlP s pos := by unfold inlP at hP ⊢; omega
          have ed : decide (inlP s pos < s.length) = true := decide_eq_true hP2.1
          by_cases e3 : Lib.hasPrefix (s.drop (inlP s pos)) [60, 63, 61] = true
          · rw [lexS_go hp (show stepS s false pos T = (true, inlP s pos + 3, 0, inlT s pos T ++ [⟨3, 0, echo, inlP s pos⟩]) by unfold stepS; rw [if_pos rfl, if_pos e3, ed]),
              show inlX s pos T = (inlP s pos + 3, 0, inlT s pos T ++ [⟨3, 0, echo, inlP s pos⟩]) by unfold inlX; rw [if_neg hP, if_pos e3]]
            exact ih.1 _ _ _ (by omega) (by omega)
          · rw [lexS_go hp (show stepS s false pos T = (true, inlP s pos + 2, 0, inlT s pos T) by unfold stepS; rw [if_pos rfl, if_neg e3, ed]),
              show inlX s pos T = (inlP s pos + 2, 0, inlT s pos T) by unfold inlX; rw [if_neg hP, if_neg e3]]
            exact ih.1 _ _ _ (by omega) (by omega)
      · have hk : ink (s.drop pos) = 0 := by rw [List.drop_eq_nil_of_le (by omega)]; rfl
        have e : inlX s pos T = (pos, 0, T) := by
          unfold inlX
          have e1 : inlP s pos = pos := by unfold inlP; omega
          have e2 : inlT s pos T = T := by unfold inlT; rw [hk]; rfl
          rw [e1, e2, if_pos (by omega)]
        rw [lexS_end rfl hp, e, lexR_stop (fun h => hp h.2)]
        exact ⟨rfl, fun _ => rfl, fun _ => rfl⟩
/-- The two lexers agree. -/
theorem lex_same (s : List UInt8) : agree (lexS s s.length (false, 0, [])) (lexI s) := (lex_agree s s.length).2 0 [] s.length (by omega) (by omega) (by omega)

end Go.Am
