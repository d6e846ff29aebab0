/- The reference's numbers: what stands before a byte. -/
import Derived.Test.YtcipcpjmialcoaaDoorP3
import Derived.Test.YtcipcpjmialcoaaDoorS5
set_option linter.unusedVariables false
set_option linter.unusedSimpArgs false
namespace Go.Am
open Go Go.RowKit Go.Proofs
theorem itoa_max : Lib.itoa 1000000001 = ([49, 48, 48, 48, 48, 48, 48, 48, 48, 49] : Str) := by
 unfold Lib.itoa
 rw [if_neg (by decide)]
 show Lib.decDigits 1000000001 = _
 repeat (rw [decDigits_step]; simp only [Nat.reduceDiv, Nat.reduceMod, Nat.reduceEqDiff, if_false, if_true, Nat.reduceAdd])
 rfl
theorem itoa_len11 {n : Int} (h0 : -1000000000 ≤ n) (h1 : n ≤ 1000000001) : (Lib.itoa n).length ≤ 11 := by
 by_cases h : n = 1000000001
 ·rw [h, itoa_max]; decide
 ·exact itoa_short h0 (by omega)
theorem sp_inv {s : Str} {n : Int} (h : sp s = some n) : Lib.itoa n = s ∧ -1000000000 ≤ n ∧ n ≤ 1000000000 := by
 rw [← pw_eq] at h
 unfold pw at h
 split at h
 ·cases h
 ·split at h
  ·split at h
   ·rename_i h1
    cases h
    exact h1
   ·cases h
  ·cases h
theorem sp_itoa {n : Int} (h0 : -1000000000 ≤ n) (h1 : n ≤ 1000000000) : sp (Lib.itoa n) = some n := by rw [← pw_eq]; exact pw_itoa (by omega) (by omega) h0 h1
theorem num_L2 {s : Str} {a : Nat} {c : UInt8} (hs : s.length ≤ 1000000000000) (ha : a ≤ s.length) : ∃ j : Nat, a ≤ j ∧ j ≤ s.length ∧ m_s_l11Num_L2 s (a : Int) (c.toNat : Int) (a : Int) = some (j : Int) ∧ (∀ i, a ≤ i → i < j → s.getD i 0 ≠ c) ∧ (j < s.length → s.getD j 0 = c ∨ a + 12 ≤ j) := by
 have hat := w_of (x := (a : Int) + 12) (n := a + 12) (by omega) (by omega)
 have go : ∀ m i : Nat, s.length - i = m → a ≤ i → i ≤ s.length → (∀ q, a ≤ q → q < i → s.getD q 0 ≠ c) → ∃ j : Nat, a ≤ j ∧ j ≤ s.length ∧ m_s_l11Num_L2 s (a : Int) (c.toNat : Int) (i : Int) = some (j : Int) ∧ (∀ i, a ≤ i → i < j → s.getD i 0 ≠ c) ∧ (j < s.length → s.getD j 0 = c ∨ a + 12 ≤ j) := by
  intro m
  induction m with
  | zero =>
   intro i h1 h2 h3 h4
   rw [m_s_l11Num_L2, if_neg (by omega)]
   exact ⟨i, h2, h3, rfl, h4, fun h => by omega⟩
  | succ m ihm =>
   intro i h1 h2 h3 h4
   rw [m_s_l11Num_L2, if_pos (by omega), sidx_nat (show i < s.length by omega), sb]
   by_cases hc : s.getD i 0 = c
   ·rw [if_pos (by rw [hc])]
    exact ⟨i, h2, h3, rfl, h4, fun _ => .inl hc⟩
   ·rw [if_neg (fun h => hc (UInt8.toNat_inj.1 (by omega))), hat]
    by_cases h12 : i < a + 12
    ·rw [if_pos (by omega), w_succ (by omega)]
     exact ihm (i + 1) (by omega) (by omega) (by omega) (fun q h5 h6 => by
      by_cases h7 : q = i
      ·subst h7; exact hc
      ·exact h4 q h5 (by omega))
    ·rw [if_neg (by omega)]
     exact ⟨i, h2, h3, rfl, h4, fun _ => .inr (by omega)⟩
 exact go _ a rfl (Nat.le_refl _) ha (fun q h1 h2 => by omega)
theorem drop_split {s : Str} {a j : Nat} {c : UInt8} (h1 : a ≤ j) (h2 : j < s.length) (hc : s.getD j 0 = c) : s.drop a = (s.take j).drop a ++ c :: s.drop (j + 1) := by
 have e1 : s.drop a = (s.take j ++ s.drop j).drop a := by rw [List.take_append_drop]
 rw [e1, List.drop_append_of_le_length (by rw [List.length_take]; omega), List.drop_eq_getElem_cons h2]
 congr 2
 rw [← hc, List.getD_eq_getElem?_getD, List.getElem?_eq_getElem h2, Option.getD_some]
theorem num_tot {s : Str} {a : Nat} (c : UInt8) (hs : s.length ≤ 1000000000000) (ha : a ≤ s.length) : ∃ n nx, m_s_l11Num s (a : Int) (c.toNat : Int) = some (n, nx) ∧ ((n = 0 ∧ nx = -1) ∨ ∃ r, s.drop a = Lib.itoa n ++ c :: r ∧ nx = ((a + (Lib.itoa n).length + 1 : Nat) : Int) ∧ -1000000000 ≤ n ∧ n ≤ 1000000001) := by
 obtain ⟨j, h1, h2, e, h3, h4⟩ := num_L2 (c := c) hs ha
 unfold m_s_l11Num
 rw [e, sb]
 by_cases hj : j < s.length
 ·rw [if_neg (by omega), sidx_nat hj, sb]
  by_cases hc : s.getD j 0 = c
  ·have e1 : ssub s (a : Int) (j : Int) = some ((s.take j).drop a) := by unfold ssub; rw [if_pos ⟨by omega, by omega, by omega⟩]; rfl
   have hl : ((s.take j).drop a).length = j - a := by rw [List.length_drop, List.length_take]; omega
   have hd := drop_split h1 hj hc
   rw [if_pos (by rw [hc]), e1, sb, m54_eq, sb]
   cases hsp : sp ((s.take j).drop a) with
   | some n =>
    obtain ⟨g1, g2, g3⟩ := sp_inv hsp
    show ∃ n' nx, (if true = true then some (n, W64 ((j : Int) + 1)) else _) = some (n', nx) ∧ _
    rw [if_pos rfl, w_succ (by omega)]
    refine ⟨_, _, rfl, .inr ⟨_, by rw [g1]; exact hd, ?_, g2, by omega⟩⟩
    rw [g1, hl]
    omega
   | none =>
    show ∃ n' nx, (if false = true then _ else _) = some (n', nx) ∧ _
    rw [if_neg (by decide), sb]
    by_cases hm : (s.take j).drop a = ([49, 48, 48, 48, 48, 48, 48, 48, 48, 49] : Str)
    ·rw [if_pos hm, w_succ (by omega)]
     refine ⟨_, _, rfl, .inr ⟨_, by rw [itoa_max, ← hm]; exact hd, ?_, by omega, by omega⟩⟩
     rw [itoa_max, ← hm, hl]
     omega
    ·rw [if_neg hm]
     exact ⟨_, _, rfl, .inl ⟨rfl, rfl⟩⟩
  ·rw [if_neg (fun h => hc (UInt8.toNat_inj.1 (by omega)))]
   exact ⟨_, _, rfl, .inl ⟨rfl, rfl⟩⟩
 ·rw [if_pos (by omega)]
  exact ⟨_, _, rfl, .inl ⟨rfl, rfl⟩⟩
theorem num_ok {s r : Str} {a : Nat} {c : UInt8} {n : Int} (hc : 58 ≤ c.toNat) (h : s.drop a = Lib.itoa n ++ c :: r) (h0 : -1000000000 ≤ n) (h1 : n ≤ 1000000001) (hs : s.length ≤ 1000000000000) : m_s_l11Num s (a : Int) (c.toNat : Int) = some (n, ((a + (Lib.itoa n).length + 1 : Nat) : Int)) := by
 have hL := itoa_len11 h0 h1
 have hsl : a + (Lib.itoa n).length + (r.length + 1) = s.length := by
  have := congrArg List.length h
  rw [List.length_drop, List.length_append, List.length_cons] at this
  omega
 have hat : ∀ i, i < (Lib.itoa n).length → s.getD (a + i) 0 ≠ c := fun i hi hq => by
  have e1 : s.drop (a + i) = (Lib.itoa n)[i] :: ((Lib.itoa n).drop (i + 1) ++ c :: r) := by
   rw [← List.drop_drop, h, List.drop_append_of_le_length (by omega), List.drop_eq_getElem_cons hi]; rfl
  have e2 := (drop_at e1).2
  have := itoa_mem n _ (List.getElem_mem hi)
  rw [← e2, hq] at this
  omega
 have hend := drop_next h
 obtain ⟨hend1, hend2⟩ := drop_at hend
 obtain ⟨j, q1, q2, e, q3, q4⟩ := num_L2 (c := c) hs (show a ≤ s.length by omega)
 have hj : j = a + (Lib.itoa n).length := by
  have g1 : ¬ j < a + (Lib.itoa n).length := fun hlt => by
   rcases q4 (by omega) with q | q
   ·have := hat (j - a) (by omega)
    rw [show a + (j - a) = j by omega] at this
    exact this q
   ·omega
  have g2 : ¬ a + (Lib.itoa n).length < j := fun hlt => q3 _ (by omega) hlt hend2
  omega
 subst hj
 unfold m_s_l11Num
 rw [e, sb, if_neg (by omega), sidx_drop hend, sb, if_pos rfl, ssub_drop h (by omega), sb, m54_eq, sb]
 by_cases hm : n = 1000000001
 ·have hn : sp (Lib.itoa n) = none := by
   cases hq : sp (Lib.itoa n) with
   | none => rfl
   | some k =>
    obtain ⟨g1, g2, g3⟩ := sp_inv hq
    have := atoi_itoa n
    rw [← g1, atoi_itoa] at this
    injection this with this
    omega
  rw [hn]
  show (if false = true then _ else _) = _
  rw [if_neg (by decide), sb, hm, itoa_max, if_pos rfl, w_of (n := a + 10 + 1) (by simp) (by omega)]
  rfl
 ·rw [sp_itoa h0 (by omega)]
  show (if true = true then _ else _) = _
  rw [if_pos rfl, w_succ (by omega)]
end Go.Am
