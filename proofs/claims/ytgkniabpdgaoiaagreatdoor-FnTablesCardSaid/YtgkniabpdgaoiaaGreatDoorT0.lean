/- The plain law: heads without slots, and the size of a rebuilt table. -/
import Derived.Test.YtgkniabpdgaoiaaGreatDoorV3
import Derived.Test.YtgkniabpdgaoiaaGreatDoorV2
import Derived.Test.YtgkniabpdgaoiaaGreatDoorK2
set_option linter.unusedVariables false
set_option linter.unusedSimpArgs false
namespace Go.Am
open Go Go.RowKit Go.Proofs
theorem fill_go (n : Nat) (hn : n ≤ 100000) (l1 : List Int) (h1 : l1.length = n) : ∀ (f k : Nat) (l : List Int), n ≤ k + f → k ≤ n → l.length = n → (∀ j, j < k → l[j]? = some (-1)) →
  m_i_noHeads_L2 l1 l (k : Int) = some (List.replicate n (-1))
 | f, k, l, hf, hk, hl, hj => by
  rw [m_i_noHeads_L2]
  by_cases hc : k < n
  ·obtain ⟨g, rfl⟩ : ∃ g, f = g + 1 := ⟨f - 1, by omega⟩
   rw [if_pos (by omega), idx_nat (by omega), sb, w_succ (by omega), Int.toNat_natCast]
   refine fill_go n hn l1 h1 g (k + 1) _ (by omega) (by omega) (by simpa using hl) (fun j h => ?_)
   rw [List.getElem?_set]
   by_cases q : k = j
   ·rw [if_pos q, if_pos (by omega)]
   ·rw [if_neg q]; exact hj j (by omega)
  ·rw [if_neg (by omega)]
   congr 1
   refine List.ext_getElem? fun j => ?_
   by_cases q : j < n
   ·rw [hj j (by omega), List.getElem?_replicate, if_pos q]
   ·rw [List.getElem?_eq_none (by omega), List.getElem?_eq_none (by simp; omega)]
theorem noHeads_eq (n : Nat) (hn : n ≤ 100000) : m_i_noHeads (n : Int) = some (List.replicate n (-1)) := by
 unfold m_i_noHeads
 have em : (lmake 8 (n : Int) (n : Int) : Option (List Int)) = some (List.replicate n default) := by
  unfold lmake
  rw [if_pos ⟨by omega, by omega, by omega, by omega⟩]; rfl
 have := fill_go n hn (List.replicate n default) (by simp) n 0 (List.replicate n default) (by omega) (by omega) (by simp) (fun j h => absurd h (by omega))
 rw [show ((0 : Nat) : Int) = 0 from rfl] at this
 rw [em, sb, this, sb]
def Pw (n : Nat) : Prop := n = 8 ∨ n = 16 ∨ n = 32 ∨ n = 64 ∨ n = 128 ∨ n = 256 ∨ n = 512 ∨ n = 1024
theorem Pw.bd {n : Nat} (h : Pw n) : 8 ≤ n ∧ n ≤ 1024 := by rcases h with h | h | h | h | h | h | h | h <;> omega
theorem size_eq (a : TTable) (c : Nat) (hc : a.fCount = (c : Int)) (h : c ≤ 1000) : ∃ n : Nat, m_i_rebuilt_L2 a 8 = some (n : Int) ∧ Pw n ∧ c < n := by
 have st : ∀ y : Nat, y ≤ 1024 → m_i_rebuilt_L2 a (y : Int) = if y ≤ c then m_i_rebuilt_L2 a ((2 * y : Nat) : Int) else some (y : Int) := fun y hy => by
  rw [m_i_rebuilt_L2, hc]
  by_cases q : y ≤ c
  ·rw [if_pos (by omega), if_pos q]
   have e : W64 ((y : Int) * 2) = ((2 * y : Nat) : Int) := w_nat (by omega) (by omega)
   rw [e]
  ·rw [if_neg (by omega), if_neg q]
 have s8 := st 8 (by omega)
 have s16 := st 16 (by omega)
 have s32 := st 32 (by omega)
 have s64 := st 64 (by omega)
 have s128 := st 128 (by omega)
 have s256 := st 256 (by omega)
 have s512 := st 512 (by omega)
 have s1024 := st 1024 (by omega)
 rw [show ((8 : Nat) : Int) = 8 from rfl] at s8
 by_cases q1 : 8 ≤ c
 case neg => rw [if_neg q1] at s8; exact ⟨8, s8, .inl rfl, by omega⟩
 rw [if_pos q1] at s8
 by_cases q2 : 16 ≤ c
 case neg => rw [if_neg q2] at s16; exact ⟨16, s8.trans s16, .inr (.inl rfl), by omega⟩
 rw [if_pos q2] at s16
 by_cases q3 : 32 ≤ c
 case neg => rw [if_neg q3] at s32; exact ⟨32, s8.trans (s16.trans s32), .inr (.inr (.inl rfl)), by omega⟩
 rw [if_pos q3] at s32
 by_cases q4 : 64 ≤ c
 case neg => rw [if_neg q4] at s64; exact ⟨64, s8.trans (s16.trans (s32.trans s64)), .inr (.inr (.inr (.inl rfl))), by omega⟩
 rw [if_pos q4] at s64
 by_cases q5 : 128 ≤ c
 case neg => rw [if_neg q5] at s128; exact ⟨128, s8.trans (s16.trans (s32.trans (s64.trans s128))), .inr (.inr (.inr (.inr (.inl rfl)))), by omega⟩
 rw [if_pos q5] at s128
 by_cases q6 : 256 ≤ c
 case neg => rw [if_neg q6] at s256; exact ⟨256, s8.trans (s16.trans (s32.trans (s64.trans (s128.trans s256)))), .inr (.inr (.inr (.inr (.inr (.inl rfl))))), by omega⟩
 rw [if_pos q6] at s256
 by_cases q7 : 512 ≤ c
 case neg => rw [if_neg q7] at s512; exact ⟨512, s8.trans (s16.trans (s32.trans (s64.trans (s128.trans (s256.trans s512))))), .inr (.inr (.inr (.inr (.inr (.inr (.inl rfl)))))), by omega⟩
 rw [if_pos q7] at s512
 rw [if_neg (by omega)] at s1024
 exact ⟨1024, s8.trans (s16.trans (s32.trans (s64.trans (s128.trans (s256.trans (s512.trans s1024)))))), .inr (.inr (.inr (.inr (.inr (.inr (.inr rfl)))))), by omega⟩
end Go.Am
