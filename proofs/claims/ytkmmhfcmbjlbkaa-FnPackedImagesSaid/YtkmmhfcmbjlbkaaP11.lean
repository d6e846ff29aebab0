/- What is packed is unpacked, and what is unpacked is packed again: in plain numbers. -/
import Derived.Test.YtkmmhfcmbjlbkaaP10
set_option linter.unusedVariables false
set_option linter.unusedSimpArgs false
namespace Go.Am
open Go Go.RowKit Go.Proofs

def at' (z : Nat → Int) (n i : Nat) : Int := if i < n then z i else 0
theorem part6 (z : Nat → Int) (n i : Nat) : part z n i 6 = ((((at' z n i * 256 + at' z n (i + 1)) * 256 + at' z n (i + 2)) * 256 + at' z n (i + 3)) * 256 + at' z n (i + 4)) * 256 + at' z n (i + 5) := by
  simp only [part, at', Nat.add_zero, Int.zero_mul, Int.zero_add]

theorem at_bd {z : Nat → Int} (hz : ∀ i, 0 ≤ z i ∧ z i ≤ 255) (n i : Nat) : 0 ≤ at' z n i ∧ at' z n i ≤ 255 := by
  unfold at'
  split
  · exact hz i
  · omega

theorem digits {a b c d e f : Int} (ha : 0 ≤ a ∧ a ≤ 255) (hb : 0 ≤ b ∧ b ≤ 255) (hc : 0 ≤ c ∧ c ≤ 255) (hd : 0 ≤ d ∧ d ≤ 255) (he : 0 ≤ e ∧ e ≤ 255) (hf : 0 ≤ f ∧ f ≤ 255) (v : Int)
    (hv : v = ((((a * 256 + b) * 256 + c) * 256 + d) * 256 + e) * 256 + f) :
    v / 1099511627776 % 256 = a ∧ v / 4294967296 % 256 = b ∧ v / 16777216 % 256 = c ∧ v / 65536 % 256 = d ∧ v / 256 % 256 = e ∧ v % 256 = f := by
  omega

theorem undigits {v : Int} (h : wordOk v) : ((((v / 1099511627776 % 256 * 256 + v / 4294967296 % 256) * 256 + v / 16777216 % 256) * 256 + v / 65536 % 256) * 256 + v / 256 % 256) * 256 + v % 256 = v := by
  obtain ⟨h0, h1⟩ := h
  omega

theorem ubyte6 (x : Nat → Int) (j t : Nat) (ht : t < 6) : ubyte x (6 * j + t) = x (j + 1) / 256 ^ (5 - t) % 256 := by
  unfold ubyte
  rw [show (6 * j + t) / 6 = j by omega, show (6 * j + t) % 6 = t by omega]

/-- Byte i of the packed words is byte i of the image, or zero. -/
theorem unpack_pack (n : Nat) (z : Nat → Int) (hz : ∀ i, 0 ≤ z i ∧ z i ≤ 255) (i : Nat) : ubyte (packed z n) i = at' z n i := by
  obtain ⟨h1, h2, h3, h4, h5, h6⟩ := digits (at_bd hz n (6 * (i / 6))) (at_bd hz n (6 * (i / 6) + 1)) (at_bd hz n (6 * (i / 6) + 2)) (at_bd hz n (6 * (i / 6) + 3)) (at_bd hz n (6 * (i / 6) + 4)) (at_bd hz n (6 * (i / 6) + 5)) (packed z n (i / 6 + 1)) (part6 z n (6 * (i / 6)))
  have hi : i = 6 * (i / 6) + i % 6 := by omega
  have ht : i % 6 < 6 := by omega
  generalize i / 6 = j at *
  generalize i % 6 = t at *
  subst hi
  rw [ubyte6 _ _ _ ht]
  have : t = 0 ∨ t = 1 ∨ t = 2 ∨ t = 3 ∨ t = 4 ∨ t = 5 := by omega
  rcases this with rfl | rfl | rfl | rfl | rfl | rfl
  · exact h1
  · exact h2
  · exact h3
  · exact h4
  · exact h5
  · simpa using h6

theorem good_packed (n : Nat) (hn : n ≤ 24000) (z : Nat → Int) (hz : ∀ i, 0 ≤ z i ∧ z i ≤ 255) : goodImg (words n + 1) (packed z n) := by
  refine ⟨⟨by omega, by simp [packed], by simp [packed]; omega, by simp [packed, words]⟩, fun j h1 h2 => ?_, fun i h1 h2 => ?_⟩
  · obtain ⟨k, rfl⟩ : ∃ k, j = k + 1 := ⟨j - 1, by omega⟩
    exact part_bd hz n (6 * k) 6 (Nat.le_refl _)
  · rw [unpack_pack n z hz]
    have : ¬ i < n := by simp only [packed] at h1; omega
    simp [at', this]

theorem pack_unpack (n : Nat) (x : Nat → Int) (hg : goodImg n x) : words (x 0).toNat + 1 = n ∧ ∀ j, j < n → packed (ubyte x) (x 0).toNat j = x j := by
  obtain ⟨⟨g1, g2, g3, g4⟩, g5, g6⟩ := hg
  refine ⟨by unfold words; omega, fun j hj => ?_⟩
  cases j with
  | zero => simp only [packed]; omega
  | succ k =>
    simp only [packed]
    rw [part6]
    have hat : ∀ t, t < 6 → at' (ubyte x) (x 0).toNat (6 * k + t) = ubyte x (6 * k + t) := fun t ht => by
      unfold at'
      split
      · rfl
      · rename_i h
        exact (g6 _ (by omega) (by omega)).symm
    have h0 := hat 0 (by omega)
    rw [Nat.add_zero] at h0
    have e0 := ubyte6 x k 0 (by omega)
    rw [Nat.add_zero] at e0
    rw [h0, hat 1 (by omega), hat 2 (by omega), hat 3 (by omega), hat 4 (by omega), hat 5 (by omega), e0, ubyte6 x k 1 (by omega), ubyte6 x k 2 (by omega), ubyte6 x k 3 (by omega), ubyte6 x k 4 (by omega), ubyte6 x k 5 (by omega)]
    have := undigits (g5 (k + 1) (by omega) hj)
    simpa using this

end Go.Am
