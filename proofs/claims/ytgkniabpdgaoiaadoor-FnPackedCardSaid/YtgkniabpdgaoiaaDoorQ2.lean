/- The plain law: hashed tables that are built slot by slot. -/
import Derived.Test.YtgkniabpdgaoiaaDoorQ1
set_option linter.unusedVariables false
set_option linter.unusedSimpArgs false
namespace Go.Am
open Go Go.RowKit Go.Proofs
abbrev Ht := List Int × List TSlot
def stp (n : Nat) (t : Ht) (e : TEntry) : Ht := (t.1.set (bk' n e.fKey) (t.2.length : Int), t.2 ++ [TSlot.mk e.fKey e.fVal true (t.1.getD (bk' n e.fKey) 0)])
def tb (n : Nat) (l : List TEntry) : Ht := l.foldl (stp n) (List.replicate n (-1), [])
theorem tb_snoc (n : Nat) (l : List TEntry) (e : TEntry) : tb n (l ++ [e]) = stp n (tb n l) e := by unfold tb; rw [List.foldl_append]; rfl
structure TF (n : Nat) (l : List TEntry) (t : Ht) : Prop where
 hl : t.1.length = n
 hb : ∀ b, b < n → -1 ≤ t.1.getD b 0 ∧ t.1.getD b 0 < t.2.length
 len : t.2.length = l.length
 slot : ∀ i (hi : i < l.length), ∃ k, t.2[i]? = some (TSlot.mk l[i].fKey l[i].fVal true k) ∧ -1 ≤ k ∧ k < i
theorem TF.step {n : Nat} {l : List TEntry} {t : Ht} (hn : 0 < n) (h : TF n l t) (e : TEntry) : TF n (l ++ [e]) (stp n t e) := by
 have hbk := bk_lt hn e.fKey
 have hq := h.hb _ hbk
 have hlen := h.len
 refine ⟨by simp [stp, h.hl], fun b hb => ?_, by simp [stp, hlen], fun i hi => ?_⟩
 ·show -1 ≤ (t.1.set (bk' n e.fKey) (t.2.length : Int)).getD b 0 ∧ (t.1.set (bk' n e.fKey) (t.2.length : Int)).getD b 0 < ((t.2 ++ [_]).length : Nat)
  rw [List.getD_eq_getElem?_getD, List.getElem?_set]
  by_cases he : bk' n e.fKey = b
  ·rw [if_pos he, if_pos (by rw [h.hl]; exact hbk)]; simp; omega
  ·have := h.hb b hb
   rw [if_neg he, ← List.getD_eq_getElem?_getD, List.length_append]; simp only [List.length_cons, List.length_nil]; omega
 ·show ∃ k, (t.2 ++ [TSlot.mk e.fKey e.fVal true (t.1.getD (bk' n e.fKey) 0)])[i]? = _ ∧ _
  by_cases hc : i < l.length
  ·obtain ⟨k, q1, q2⟩ := h.slot i hc
   refine ⟨k, ?_, q2⟩
   rw [List.getElem?_append_left (by omega), q1, List.getElem_append_left hc]
  ·have : i = l.length := by simp at hi; omega
   subst this
   refine ⟨t.1.getD (bk' n e.fKey) 0, ?_, by omega, by omega⟩
   rw [List.getElem?_append_right (by omega)]
   simp [hlen]
theorem TF.tb {n : Nat} (hn : 0 < n) (l : List TEntry) : ∀ m, m ≤ l.length → TF n (l.take m) (Go.Am.tb n (l.take m))
 | 0, _ => by
  rw [List.take_zero]
  refine ⟨by simp [Go.Am.tb], fun b hb => ?_, rfl, fun i hi => by simp at hi⟩
  show -1 ≤ (List.replicate n (-1 : Int)).getD b 0 ∧ (List.replicate n (-1 : Int)).getD b 0 < ((0 : Nat) : Int)
  rw [List.getD_eq_getElem?_getD, List.getElem?_replicate, if_pos hb]; simp
 | m + 1, hm => by
  have e : l.take (m + 1) = l.take m ++ [l[m]] := (List.take_append_getElem (by omega)).symm
  rw [e, tb_snoc]
  exact (TF.tb hn l m (by omega)).step hn _
theorem TF.all {n : Nat} (hn : 0 < n) (l : List TEntry) : TF n l (Go.Am.tb n l) := by
 have := TF.tb hn l l.length (Nat.le_refl _)
 rwa [List.take_length] at this
theorem add_hashed {n : Nat} (hn : 0 < n) (h1 : n ≤ 1024) {l : List TEntry} {t : Ht} (h : TF n l t) (hl : l.length ≤ 2000) {k : TKey} (hk : vk k = true) (v : TValue) (nx : Int) (c : Nat) (hc : c ≤ 2000) :
  m_i_addSlot (TTable.mk true t.1 t.2 nx (c : Int)) k v = some (TTable.mk true (stp n t (.mk k v)).1 (stp n t (.mk k v)).2 nx ((c + 1 : Nat) : Int)) := by
 obtain ⟨_, e1, _, _⟩ := kh_eq hk
 obtain ⟨e2, _⟩ := bk_mod hn h1 hk
 have hb := bk_lt hn k
 have hlen := h.len
 unfold m_i_addSlot
 have e3 : idx t.1 (bk' n k : Int) = some (t.1.getD (bk' n k) 0) := by
  rw [idx_nat (by rw [h.hl]; exact hb), List.getD_eq_getElem?_getD, List.getElem?_eq_getElem (by rw [h.hl]; exact hb)]; rfl
 simp only [if_true, h.hl, e1, e2, e3, sb, Int.toNat_natCast, w_succ (show c < 9223372036854775807 by omega)]
 rw [lapp_eq (by simp; omega), sb]
 rfl
theorem chain_none {L : List TSlot} {k : TKey} (hL : L.length ≤ 2000) (hs : ∀ i, i < L.length → ∃ s, L[i]? = some s ∧ s.fLive = true ∧ s.fKey ≠ k ∧ -1 ≤ s.fLink ∧ s.fLink < i) (a : TTable) (ha : a.fSlots = L) :
  ∀ (f : Nat) (y : Int), y < f → y < L.length → -1 ≤ y → m_i_slotOf_L2 a k y = some (.inl ())
 | 0, y, hf, hy, h0 => by rw [m_i_slotOf_L2, if_neg (by omega)]
 | f + 1, y, hf, hy, h0 => by
  rw [m_i_slotOf_L2]
  by_cases hc : y ≥ 0
  ·obtain ⟨j, rfl⟩ : ∃ j : Nat, y = (j : Int) := ⟨y.toNat, by omega⟩
   obtain ⟨s, q1, q2, q3, q4, q5⟩ := hs j (by omega)
   have e : idx L (j : Int) = some s := by
    obtain ⟨hj, e⟩ := List.getElem?_eq_some_iff.1 q1
    rw [idx_nat hj, e]
   rw [if_pos hc, ha, e, sb, if_pos q2, sb, if_neg q3, sb]
   exact chain_none hL hs a ha f s.fLink (by omega) (by omega) q4
  ·rw [if_neg hc]
theorem slotOf_hashed {n : Nat} (hn : 0 < n) (h1 : n ≤ 1024) {l : List TEntry} {t : Ht} (h : TF n l t) (hl : l.length ≤ 2000) {k : TKey} (hk : vk k = true) (hno : ∀ e ∈ l, e.fKey ≠ k) (nx c : Int) :
  m_i_slotOf (TTable.mk true t.1 t.2 nx c) k = some (-1) := by
 obtain ⟨_, e1, _, _⟩ := kh_eq hk
 obtain ⟨e2, _⟩ := bk_mod hn h1 hk
 have hb := bk_lt hn k
 have hlen := h.len
 have e3 : idx t.1 (bk' n k : Int) = some (t.1.getD (bk' n k) 0) := by
  rw [idx_nat (by rw [h.hl]; exact hb), List.getD_eq_getElem?_getD, List.getElem?_eq_getElem (by rw [h.hl]; exact hb)]; rfl
 have hq := h.hb _ hb
 have e4 := chain_none (L := t.2) (k := k) (by omega) (fun i hi => by
  obtain ⟨q, s1, s2, s3⟩ := h.slot i (by omega)
  exact ⟨_, s1, rfl, hno _ (List.getElem_mem (by omega)), s2, s3⟩) (TTable.mk true t.1 t.2 nx c) rfl (t.2.length) (t.1.getD (bk' n k) 0) (by omega) hq.2 hq.1
 unfold m_i_slotOf
 simp only [if_true, e1, h.hl, e2, e3, sb, e4]
end Go.Am
