/- The plain law: hashes of keys, and the heads of a hashed table. -/
import Derived.Test.YtgkniabpdgaoiaaGreatDoorT0
import Derived.Test.YtgkniabpdgaoiaaGreatDoorK3
set_option linter.unusedVariables false
set_option linter.unusedSimpArgs false
namespace Go.Am
open Go Go.RowKit Go.Proofs
theorem hash_go (s : Str) (hs : s.length ≤ 1000) : ∀ (f k : Nat) (y : Int), s.length ≤ k + f → k ≤ s.length → 0 ≤ y → y < 2147483647 →
  ∃ z, m_s_HashText_L2 s y (k : Int) = some z ∧ m_i_HashText_L2 s y (k : Int) = some z ∧ 0 ≤ z ∧ z < 2147483647
 | f, k, y, hf, hk, h0, h1 => by
  rw [m_s_HashText_L2, m_i_HashText_L2]
  by_cases hc : k < s.length
  ·obtain ⟨g, rfl⟩ : ∃ g, f = g + 1 := ⟨f - 1, by omega⟩
   have hb : ((s.getD k 0).toNat : Int) < 256 := by have := (s.getD k 0).toNat_lt; omega
   rw [if_pos (by omega), if_pos (by omega), sidx_nat hc, sb, sb, w_succ (by omega)]
   have e1 : W64 (y * 1000003) = y * 1000003 := by rw [W64, w64 (by omega) (by omega)]
   have e2 : W64 ((s.getD k 0).toNat : Int) = ((s.getD k 0).toNat : Int) := by rw [W64, w64 (by omega) (by omega)]
   have e3 : W64 (y * 1000003 + ((s.getD k 0).toNat : Int)) = y * 1000003 + ((s.getD k 0).toNat : Int) := by rw [W64, w64 (by omega) (by omega)]
   have e4 : W64 (y * 1000003 + ((s.getD k 0).toNat : Int) + 13) = y * 1000003 + ((s.getD k 0).toNat : Int) + 13 := by rw [W64, w64 (by omega) (by omega)]
   rw [e1, e2, e3, e4]
   have hm := Int.tmod_eq_emod_of_nonneg (b := 2147483647) (show 0 ≤ y * 1000003 + ((s.getD k 0).toNat : Int) + 13 by omega)
   rw [hm]
   exact hash_go s hs g (k + 1) _ (by omega) (by omega) (by omega) (by omega)
  ·rw [if_neg (by omega), if_neg (by omega)]
   exact ⟨y, rfl, rfl, h0, h1⟩
def kh (k : TKey) : Int := (m_s_KeyHash k).getD 0
def KB (k : TKey) : Prop := k.fStr.length ≤ 1000
theorem kh_eq {k : TKey} (h : KB k) : m_s_KeyHash k = some (kh k) ∧ m_i_KeyHash k = some (kh k) ∧ 0 ≤ kh k ∧ kh k < 2147483647 := by
 suffices q : ∃ z, m_s_KeyHash k = some z ∧ m_i_KeyHash k = some z ∧ 0 ≤ z ∧ z < 2147483647 by
  obtain ⟨z, a, b, c, d⟩ := q
  have : kh k = z := by unfold kh; rw [a]; rfl
  rw [this]
  exact ⟨a, b, c, d⟩
 have hl : k.fStr.length ≤ 1000 := h
 unfold m_s_KeyHash m_i_KeyHash
 by_cases ht : k.fText = true
 ·obtain ⟨z, a, b, c, d⟩ := hash_go k.fStr (by omega) k.fStr.length 0 11 (by omega) (by omega) (by omega) (by omega)
  rw [show ((0 : Nat) : Int) = 0 from rfl] at a b
  rw [if_pos ht, if_pos ht]
  unfold m_s_HashText m_i_HashText
  rw [a, b]
  exact ⟨z, rfl, rfl, c, d⟩
 ·rw [if_neg ht, if_neg ht]
  unfold m_s_Mod m_i_Mod
  have em : must ((2147483647 : Int) ≠ 0) = some () := if_pos (by decide)
  rw [m53_eq, sb, if_pos (by decide), em, sb, sb, if_neg (by omega), if_neg (by omega), sb]
  generalize hr : k.fNum.tmod 2147483647 = r
  have r1 : -2147483647 < r ∧ r < 2147483647 := by
   have h1 := Int.tmod_lt_of_pos k.fNum (show (0 : Int) < 2147483647 by decide)
   have h2 := Int.lt_tmod_of_pos k.fNum (show (0 : Int) < 2147483647 by decide)
   omega
  by_cases h0 : 0 ≤ r
  ·have e2 : W64 (r + 2147483647) = r + 2147483647 := by rw [W64, w64 (by omega) (by omega)]
   have e3 := Int.tmod_eq_emod_of_nonneg (b := 2147483647) (show 0 ≤ r + 2147483647 by omega)
   rw [e2, e3, if_neg (by omega), sb, sb]
   exact ⟨r, by congr 1; omega, rfl, by omega, by omega⟩
  ·have e2 : W64 (r + 2147483647) = r + 2147483647 := by rw [W64, w64 (by omega) (by omega)]
   have e3 := Int.tmod_eq_emod_of_nonneg (b := 2147483647) (show 0 ≤ r + 2147483647 by omega)
   rw [e2, e3, if_pos (by omega), sb, sb]
   exact ⟨r + 2147483647, by congr 1; omega, rfl, by omega, by omega⟩
theorem vk_kb {k : TKey} (h : vk k = true) : KB k := by
 unfold vk at h
 unfold KB
 by_cases ht : k.fText = true
 ·rw [if_pos ht] at h
  refine Decidable.byContradiction fun hc => ?_
  split at h
  ·first | cases h | (rw [if_neg (by omega)] at h; cases h)
  ·cases h
 ·rw [if_neg ht] at h
  split at h
  ·have : k.fStr = [] := by simpa using h
   rw [this]; exact Nat.zero_le _
  ·cases h
def bk' (n : Nat) (k : TKey) : Nat := (kh k % (n : Int)).toNat
theorem bk_lt {n : Nat} (hn : 0 < n) (k : TKey) : bk' n k < n := by
 unfold bk'
 have := Int.emod_lt_of_pos (kh k) (show (0 : Int) < n by omega)
 have := Int.emod_nonneg (kh k) (show (n : Int) ≠ 0 by omega)
 omega
theorem bk_mod {n : Nat} (hn : 0 < n) (h1 : n ≤ 1024) {k : TKey} (h : KB k) : m_i_Mod (kh k) (n : Int) = some (bk' n k : Int) ∧ (kh k).tmod (n : Int) = (bk' n k : Int) := by
 obtain ⟨_, _, h0, _⟩ := kh_eq h
 have e1 : (kh k).tmod (n : Int) = (bk' n k : Int) := by
  rw [Int.tmod_eq_emod_of_nonneg h0]
  unfold bk'
  have := Int.emod_nonneg (kh k) (show (n : Int) ≠ 0 by omega)
  omega
 refine ⟨?_, e1⟩
 unfold m_i_Mod
 have em : must ((n : Int) ≠ 0) = some () := if_pos (by omega)
 rw [if_neg (by omega), if_neg (by omega), em, sb, e1, if_neg (by omega)]
def hds (n : Nat) (L : List TSlot) : List Int := (L.foldl (fun (t : List Int × Nat) s => (t.1.set (bk' n s.fKey) (t.2 : Int), t.2 + 1)) (List.replicate n (-1), 0)).1
theorem hds_cnt (n : Nat) (L : List TSlot) : ∀ t : List Int × Nat, (L.foldl (fun (t : List Int × Nat) s => (t.1.set (bk' n s.fKey) (t.2 : Int), t.2 + 1)) t).2 = t.2 + L.length := by
 induction L with
 | nil => intro t; rfl
 | cons s r ih => intro t; rw [List.foldl_cons, ih]; simp; omega
theorem hds_nil (n : Nat) : hds n [] = List.replicate n (-1) := rfl
theorem hds_snoc (n : Nat) (L : List TSlot) (s : TSlot) : hds n (L ++ [s]) = (hds n L).set (bk' n s.fKey) (L.length : Int) := by
 unfold hds
 rw [List.foldl_append]
 simp only [List.foldl_cons, List.foldl_nil]
 rw [hds_cnt]
 simp
theorem hds_take {n : Nat} {L : List TSlot} {i : Nat} (h : i < L.length) : hds n (L.take (i + 1)) = (hds n (L.take i)).set (bk' n L[i].fKey) (i : Int) := by
 have e : L.take (i + 1) = L.take i ++ [L[i]] := (List.take_append_getElem h).symm
 rw [e, hds_snoc]
 congr 2
 simp; omega
theorem hds_len (n : Nat) (L : List TSlot) : (hds n L).length = n := by
 have : ∀ m, m ≤ L.length → (hds n (L.take m)).length = n := by
  intro m
  induction m with
  | zero => intro _; simp [hds_nil]
  | succ m ih => intro h; rw [hds_take (by omega), List.length_set]; exact ih (by omega)
 have := this L.length (Nat.le_refl _)
 rwa [List.take_length] at this
theorem hds_bd {n : Nat} (L : List TSlot) : ∀ m, m ≤ L.length → ∀ b, b < n → -1 ≤ (hds n (L.take m)).getD b 0 ∧ (hds n (L.take m)).getD b 0 < (m : Int)
 | 0, _, b, hb => by
  rw [List.take_zero, hds_nil, List.getD_eq_getElem?_getD, List.getElem?_replicate, if_pos hb]; simp
 | m + 1, hm, b, hb => by
  have ih := hds_bd L m (by omega) b hb
  rw [hds_take (by omega), List.getD_eq_getElem?_getD, List.getElem?_set]
  by_cases he : bk' n L[m].fKey = b
  ·rw [if_pos he, if_pos (by rw [hds_len]; omega)]; simp; omega
  ·rw [if_neg he, ← List.getD_eq_getElem?_getD]; omega
theorem hds_keys {n : Nat} {L M : List TSlot} (hl : L.length = M.length) (h : ∀ i (h1 : i < L.length) (h2 : i < M.length), L[i].fKey = M[i].fKey) : ∀ m, m ≤ L.length → hds n (L.take m) = hds n (M.take m)
 | 0, _ => by simp
 | m + 1, hm => by rw [hds_take (by omega), hds_take (by omega), hds_keys hl h m (by omega), h m (by omega) (by omega)]
def lnk (n : Nat) (L : List TSlot) (i : Nat) : Int := if h : i < L.length then (hds n (L.take i)).getD (bk' n L[i].fKey) 0 else 0
theorem lnk_eq {n : Nat} {L : List TSlot} {i : Nat} (h : i < L.length) : lnk n L i = (hds n (L.take i)).getD (bk' n L[i].fKey) 0 := dif_pos h
theorem hd_idx {n : Nat} {L : List TSlot} {b : Nat} (h : b < n) : idx (hds n L) (b : Int) = some ((hds n L).getD b 0) := by
 rw [idx_nat (by rw [hds_len]; exact h), List.getD_eq_getElem?_getD, List.getElem?_eq_getElem (by rw [hds_len]; exact h)]; rfl
def lastAt (L : List TSlot) (k : TKey) : Nat → Int
 | 0 => -1
 | m + 1 => if ∃ h : m < L.length, L[m].fLive = true ∧ L[m].fKey = k then (m : Int) else lastAt L k m
def slE (s : TSlot) : TEntry := TEntry.mk s.fKey s.fVal
def lv (L : List TSlot) : List TEntry := (L.filter (·.fLive)).map slE
theorem lv_app (a b : List TSlot) : lv (a ++ b) = lv a ++ lv b := by unfold lv; rw [List.filter_append, List.map_append]
theorem lv_one (s : TSlot) : lv [s] = if s.fLive = true then [slE s] else [] := by
 unfold lv
 by_cases h : s.fLive = true
 ·simp [h]
 ·simp [h]
theorem lv_take {L : List TSlot} {i : Nat} (h : i < L.length) : lv (L.take (i + 1)) = lv (L.take i) ++ (if L[i].fLive = true then [slE L[i]] else []) := by
 have e : L.take (i + 1) = L.take i ++ [L[i]] := (List.take_append_getElem h).symm
 rw [e, lv_app, lv_one]
theorem lv_len (L : List TSlot) : (lv L).length ≤ L.length := by unfold lv; rw [List.length_map]; exact List.length_filter_le _ _
theorem lv_mem {L : List TSlot} {e : TEntry} : e ∈ lv L ↔ ∃ s ∈ L, s.fLive = true ∧ slE s = e := by
 unfold lv
 simp [List.mem_map, List.mem_filter, and_assoc]
end Go.Am
