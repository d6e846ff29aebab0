/- Numerals there and back. -/
import Derived.Test.YtcipcpjmialcoaaDoorW2
set_option linter.unusedVariables false
set_option linter.unusedSimpArgs false
namespace Go.Am
open Go Go.RowKit Go.Proofs
theorem decFrom_app : ∀ (a b : Str) (v : Nat), Lib.decFrom v (a ++ b) = (Lib.decFrom v a).bind (fun u => Lib.decFrom u b)
 | [], b, v => rfl
 | c :: r, b, v => by
  by_cases h : 48 ≤ c.toNat ∧ c.toNat ≤ 57
  ·rw [List.cons_append, decFrom_cons h, decFrom_cons h, decFrom_app r b]
  ·rw [List.cons_append, decFrom_bad h, decFrom_bad h]; rfl
theorem digit_nat {d : Nat} (h : d < 10) : (UInt8.ofNat (48 + d)).toNat = 48 + d := by rw [UInt8.toNat_ofNat']; omega
theorem dec_digits : ∀ (n u : Nat), u ≤ n → ∀ c ∈ Lib.decDigits u, 48 ≤ c.toNat ∧ c.toNat ≤ 57
 | n, u, h, c, hc => by
  rw [decDigits_step u] at hc
  have hd := digit_nat (Nat.mod_lt u (show 0 < 10 by omega))
  rcases List.mem_append.1 hc with h1 | h1
  ·split at h1
   ·cases h1
   ·rename_i h2
    cases n with
    | zero => omega
    | succ n => exact dec_digits n (u / 10) (by omega) c h1
  ·rw [List.mem_singleton] at h1
   subst h1
   rw [hd]; omega
theorem dec_round : ∀ (n u : Nat), u ≤ n → Lib.decFrom 0 (Lib.decDigits u) = some u
 | n, u, h => by
  rw [decDigits_step u, decFrom_app]
  have hd := digit_nat (Nat.mod_lt u (show 0 < 10 by omega))
  have last : ∀ v : Nat, Lib.decFrom v [UInt8.ofNat (48 + u % 10)] = some (v * 10 + u % 10) := fun v => by
   rw [decFrom_cons (by rw [hd]; omega), hd]
   simp [Lib.decFrom]
  split
  ·rename_i h2
   show Lib.decFrom 0 _ = _
   rw [last]
   congr 1
   omega
  ·rename_i h2
   cases n with
   | zero => omega
   | succ n =>
    rw [dec_round n (u / 10) (by omega)]
    show Lib.decFrom (u / 10) _ = _
    rw [last]
    congr 1
    omega
theorem dec_cons (u : Nat) : ∃ c r, Lib.decDigits u = c :: r ∧ 48 ≤ c.toNat ∧ c.toNat ≤ 57 := by
 cases h : Lib.decDigits u with
 | nil => rw [decDigits_step u] at h; simp at h
 | cons c r => exact ⟨c, r, rfl, dec_digits u u (Nat.le_refl _) c (by rw [h]; simp)⟩
theorem atoi_itoa (n : Int) : Lib.atoi (Lib.itoa n) = some n := by
 unfold Lib.itoa
 split
 ·rename_i hn
  obtain ⟨c, r, h1, h2⟩ := dec_cons n.natAbs
  have hr := dec_round n.natAbs n.natAbs (Nat.le_refl _)
  rw [h1] at hr ⊢
  unfold Lib.atoi Lib.decNat
  simp [hr]
  omega
 ·rename_i hn
  obtain ⟨c, r, h1, h2⟩ := dec_cons n.toNat
  have hr := dec_round n.toNat n.toNat (Nat.le_refl _)
  rw [h1] at hr ⊢
  unfold Lib.atoi Lib.decNat
  have e1 : ¬ c = 45 := fun h => by subst h; simp at h2
  have e2 : ¬ c = 43 := fun h => by subst h; simp at h2
  simp [e1, e2, hr]
  omega
theorem itoa_mem (n : Int) : ∀ c ∈ Lib.itoa n, c.toNat ≤ 57 := by
 intro c hc
 unfold Lib.itoa at hc
 split at hc
 ·rcases List.mem_cons.1 hc with rfl | h
  ·decide
  ·exact (dec_digits _ _ (Nat.le_refl _) c h).2
 ·exact (dec_digits _ _ (Nat.le_refl _) c hc).2
theorem itoa_len {n : Int} (h0 : -1000000000000 ≤ n) (h1 : n ≤ 1000000000000) : (Lib.itoa n).length ≤ 14 := by
 unfold Lib.itoa
 split
 ·simp only [List.length_cons]
  rw [Lib.decDigits_length]
  have := nDig_le 12 n.natAbs (by simp only [Nat.reduceAdd, Nat.reducePow]; omega)
  omega
 ·rw [Lib.decDigits_length]
  have := nDig_le 12 n.toNat (by simp only [Nat.reduceAdd, Nat.reducePow]; omega)
  omega
theorem pw_itoa {n lo hi : Int} (h0 : -1000000000000 ≤ n) (h1 : n ≤ 1000000000000) (h2 : lo ≤ n) (h3 : n ≤ hi) : pw (Lib.itoa n) lo hi = some n := by
 have hl := itoa_len h0 h1
 unfold pw
 rw [if_neg (by omega), Lib.atoiAll_short _ (by omega), atoi_itoa]
 show (if Lib.itoa n = Lib.itoa n ∧ lo ≤ n ∧ n ≤ hi then some n else none) = some n
 rw [if_pos ⟨rfl, h2, h3⟩]
theorem m98_itoa {n lo hi : Int} (h0 : -1000000000000 ≤ n) (h1 : n ≤ 1000000000000) (h2 : lo ≤ n) (h3 : n ≤ hi) : m98 (Lib.itoa n) lo hi = some (n, true) := by
 unfold m98; rw [pw_itoa h0 h1 h2 h3]
theorem m98_some (s : Str) (lo hi : Int) : ∃ n b, m98 s lo hi = some (n, b) ∧ (b = true → lo ≤ n ∧ n ≤ hi) ∧ (b = false → n = 0) := by
 unfold m98
 cases h : pw s lo hi with
 | none => exact ⟨0, false, rfl, fun h => (Bool.noConfusion h), fun _ => rfl⟩
 | some n =>
  refine ⟨n, true, rfl, fun _ => ?_, fun h => Bool.noConfusion h⟩
  unfold pw at h
  split at h
  ·cases h
  ·split at h
   ·split at h
    ·rename_i h1
     cases h
     exact h1.2
    ·cases h
   ·cases h
theorem m73_eq {n : Int} (h0 : -9223372036854775808 ≤ n) (h1 : n ≤ 9223372036854775807) : m73 n = some (Lib.itoa n) := if_pos ⟨h0, h1⟩
theorem scat_eq {a b : Str} (h : a.length + b.length ≤ 4611686018427387904) : scat a b = some (a ++ b) := if_pos h
end Go.Am
