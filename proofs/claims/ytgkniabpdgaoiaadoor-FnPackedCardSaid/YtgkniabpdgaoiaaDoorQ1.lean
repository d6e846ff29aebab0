/- The plain law: hashes of keys. -/
import Derived.Test.YtgkniabpdgaoiaaDoorV2
import Derived.Test.YtgkniabpdgaoiaaDoorK4
set_option linter.unusedVariables false
set_option linter.unusedSimpArgs false
namespace Go.Am
open Go Go.RowKit Go.Proofs
theorem hash_go (s : Str) (hs : s.length ≤ 1000) : ∀ (f k : Nat) (y : Int), s.length ≤ k + f → k ≤ s.length → 0 ≤ y → y < 2147483647 →
  ∃ z, m_s_HashText_L2 s y (k : Int) = some z ∧ m_i_HashText_L2 s y (k : Int) = some z ∧ 0 ≤ z ∧ z < 2147483647
 | f, k, y, hf, hk, h0, h1 => by
  rw [m_s_HashText_L2, m_i_HashText_L2]
  by_cases hc : k < s.length
  ·obtain ⟨g, rfl⟩ : ∃ g, f = g + 1 := ⟨f - 1, by omega⟩
   have hb : ((s.getD k 0).toNat : Int) < 256 := by have := (s.getD k 0).toNat_lt; omega
   rw [if_pos (by omega), if_pos (by omega), sidx_nat hc, sb, sb, w_succ (by omega)]
   have e1 : W64 (y * 1000003) = y * 1000003 := by rw [W64, w64 (by omega) (by omega)]
   have e2 : W64 ((s.getD k 0).toNat : Int) = ((s.getD k 0).toNat : Int) := by rw [W64, w64 (by omega) (by omega)]
   have e3 : W64 (y * 1000003 + ((s.getD k 0).toNat : Int)) = y * 1000003 + ((s.getD k 0).toNat : Int) := by rw [W64, w64 (by omega) (by omega)]
   have e4 : W64 (y * 1000003 + ((s.getD k 0).toNat : Int) + 13) = y * 1000003 + ((s.getD k 0).toNat : Int) + 13 := by rw [W64, w64 (by omega) (by omega)]
   rw [e1, e2, e3, e4]
   have hm := Int.tmod_eq_emod_of_nonneg (b := 2147483647) (show 0 ≤ y * 1000003 + ((s.getD k 0).toNat : Int) + 13 by omega)
   rw [hm]
   exact hash_go s hs g (k + 1) _ (by omega) (by omega) (by omega) (by omega)
  ·rw [if_neg (by omega), if_neg (by omega)]
   exact ⟨y, rfl, rfl, h0, h1⟩
def kh (k : TKey) : Int := (m_s_KeyHash k).getD 0
theorem kh_eq {k : TKey} (h : vk k = true) : m_s_KeyHash k = some (kh k) ∧ m_i_KeyHash k = some (kh k) ∧ 0 ≤ kh k ∧ kh k < 2147483647 := by
 suffices q : ∃ z, m_s_KeyHash k = some z ∧ m_i_KeyHash k = some z ∧ 0 ≤ z ∧ z < 2147483647 by
  obtain ⟨z, a, b, c, d⟩ := q
  have : kh k = z := by unfold kh; rw [a]; rfl
  rw [this]
  exact ⟨a, b, c, d⟩
 unfold vk at h
 unfold m_s_KeyHash m_i_KeyHash
 by_cases ht : k.fText = true
 ·rw [if_pos ht] at h
  have hl : (k.fStr.length : Int) ≤ 400 := by
   refine Decidable.byContradiction fun hc => ?_
   split at h
   ·first | cases h | (rw [if_neg hc] at h; cases h)
   ·cases h
  obtain ⟨z, a, b, c, d⟩ := hash_go k.fStr (by omega) k.fStr.length 0 11 (by omega) (by omega) (by omega) (by omega)
  rw [show ((0 : Nat) : Int) = 0 from rfl] at a b
  rw [if_pos ht, if_pos ht]
  unfold m_s_HashText m_i_HashText
  rw [a, b]
  exact ⟨z, rfl, rfl, c, d⟩
 ·rw [if_neg ht] at h
  have hn : -1000000000 ≤ k.fNum ∧ k.fNum ≤ 1000000000 := by
   refine Decidable.byContradiction fun hc => ?_
   rw [if_neg (fun hh => hc (of_decide_eq_true hh))] at h
   cases h
  rw [if_neg ht, if_neg ht]
  unfold m_s_Mod m_i_Mod
  have em : must ((2147483647 : Int) ≠ 0) = some () := if_pos (by decide)
  rw [m53_eq, sb, if_pos (by decide), em, sb, sb, if_neg (by omega), if_neg (by omega), sb]
  by_cases h0 : 0 ≤ k.fNum
  ·have e1 := Int.tmod_eq_emod_of_nonneg (b := 2147483647) h0
   have e2 : W64 (k.fNum % 2147483647 + 2147483647) = k.fNum % 2147483647 + 2147483647 := by rw [W64, w64 (by omega) (by omega)]
   have e3 := Int.tmod_eq_emod_of_nonneg (b := 2147483647) (show 0 ≤ k.fNum % 2147483647 + 2147483647 by omega)
   rw [e1, e2, e3, if_neg (by omega), sb, sb]
   exact ⟨k.fNum % 2147483647, by congr 1; omega, rfl, by omega, by omega⟩
  ·have e0 : k.fNum.tmod 2147483647 = k.fNum := by
    have : k.fNum.tmod 2147483647 = -((-k.fNum).tmod 2147483647) := by rw [Int.neg_tmod]; omega
    rw [this, Int.tmod_eq_emod_of_nonneg (by omega)]
    omega
   have e2 : W64 (k.fNum + 2147483647) = k.fNum + 2147483647 := by rw [W64, w64 (by omega) (by omega)]
   have e3 := Int.tmod_eq_emod_of_nonneg (b := 2147483647) (show 0 ≤ k.fNum + 2147483647 by omega)
   rw [e0, e2, e3, if_pos (by omega), sb, sb]
   exact ⟨k.fNum + 2147483647, by congr 1; omega, rfl, by omega, by omega⟩
def bk' (n : Nat) (k : TKey) : Nat := (kh k % (n : Int)).toNat
theorem bk_lt {n : Nat} (hn : 0 < n) (k : TKey) : bk' n k < n := by
 unfold bk'
 have := Int.emod_lt_of_pos (kh k) (show (0 : Int) < n by omega)
 have := Int.emod_nonneg (kh k) (show (n : Int) ≠ 0 by omega)
 omega
theorem bk_mod {n : Nat} (hn : 0 < n) (h1 : n ≤ 1024) {k : TKey} (h : vk k = true) : m_i_Mod (kh k) (n : Int) = some (bk' n k : Int) ∧ (kh k).tmod (n : Int) = (bk' n k : Int) := by
 obtain ⟨_, _, h0, _⟩ := kh_eq h
 have e1 : (kh k).tmod (n : Int) = (bk' n k : Int) := by
  rw [Int.tmod_eq_emod_of_nonneg h0]
  unfold bk'
  have := Int.emod_nonneg (kh k) (show (n : Int) ≠ 0 by omega)
  omega
 refine ⟨?_, e1⟩
 unfold m_i_Mod
 have em : must ((n : Int) ≠ 0) = some () := if_pos (by omega)
 rw [if_neg (by omega), if_neg (by omega), em, sb, e1, if_neg (by omega)]
end Go.Am
