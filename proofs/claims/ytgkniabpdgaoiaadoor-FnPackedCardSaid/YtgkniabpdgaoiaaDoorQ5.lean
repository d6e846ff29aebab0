/- The plain law: TableOf, and the array of a table. -/
import Derived.Test.YtgkniabpdgaoiaaDoorQ4
set_option linter.unusedVariables false
set_option linter.unusedSimpArgs false
namespace Go.Am
open Go Go.RowKit Go.Proofs
theorem tableOf_go (a : TValue) (hs : Sm a) (hl : a.fItems.length ≤ 900) (hv : ∀ e ∈ a.fItems, vk e.fKey = true) (hd : (a.fItems.map (·.fKey)).Nodup) : ∀ (f i : Nat) (T : TTable), a.fItems.length ≤ i + f → i ≤ a.fItems.length → St (a.fItems.take i) T →
  ∃ T', m_i_TableOf_L2 a [] [] T.fHashed T.fNext T.fCount T.fHeads T.fSlots (i : Int) = some ([], [], T'.fHashed, T'.fNext, T'.fCount, T'.fHeads, T'.fSlots) ∧ St a.fItems T'
 | f, i, T, hf, hi, hT => by
  rw [m_i_TableOf_L2]
  by_cases hc : i < a.fItems.length
  ·obtain ⟨g, rfl⟩ : ∃ g, f = g + 1 := ⟨f - 1, by omega⟩
   have hmem : a.fItems[i] ∈ a.fItems := List.getElem_mem hc
   obtain ⟨T', e1, h1⟩ := put_eq hT a.fItems[i] (fun x hx => hv x (List.mem_of_mem_take hx)) (hv _ hmem) (fun x hx he => by
    obtain ⟨j, hj, rfl⟩ := List.mem_iff_getElem.1 hx
    have hj2 : j < i := by simp at hj; omega
    rw [List.getElem_take] at he
    have q := List.pairwise_iff_getElem.1 hd j i (by simp; omega) (by simp; omega) hj2
    simp at q
    exact q he) (by simp; omega)
   have e2 : a.fItems.take (i + 1) = a.fItems.take i ++ [a.fItems[i]] := (List.take_append_getElem (by omega)).symm
   rw [if_pos (by omega), idx_nat hc, sb, m46_eq (hs.item _ hmem), sb, show TTable.mk T.fHashed T.fHeads T.fSlots T.fNext T.fCount = T from rfl, e1, sb, w_succ (by omega)]
   exact tableOf_go a hs hl hv hd g (i + 1) T' (by omega) (by omega) (by rw [e2]; exact h1)
  ·have : i = a.fItems.length := by omega
   subst this
   rw [List.take_length] at hT
   rw [if_neg (by omega)]
   exact ⟨T, rfl, hT⟩
theorem St.holds {l : List TEntry} {T : TTable} (h : St l T) : Holds' T.fSlots l := by
 cases h with
 | flat hp => exact ⟨by simp [plS], fun i hi => ⟨-1, by simp [plS, hi]⟩⟩
 | hashed n nx hpw hle hnp => exact (TF.all (by have := hpw.bd; omega) l).holds
theorem tb_slot {n : Nat} (hn : 0 < n) (l : List TEntry) : ∀ m, m ≤ l.length → ∀ i (hi : i < m) (hil : i < l.length), (tb n (l.take m)).2[i]? = some (TSlot.mk l[i].fKey l[i].fVal true ((tb n (l.take i)).1.getD (bk' n l[i].fKey) 0))
 | 0, _, i, hi, _ => by omega
 | m + 1, hm, i, hi, hil => by
  have e : l.take (m + 1) = l.take m ++ [l[m]] := (List.take_append_getElem (by omega)).symm
  have tl : (tb n (l.take m)).2.length = m := by rw [(TF.tb hn l m (by omega)).len]; simp; omega
  rw [e, tb_snoc]
  show ((tb n (l.take m)).2 ++ [TSlot.mk l[m].fKey l[m].fVal true ((tb n (l.take m)).1.getD (bk' n l[m].fKey) 0)])[i]? = _
  by_cases q : i < m
  ·rw [List.getElem?_append_left (by omega)]
   exact tb_slot hn l m (by omega) i q hil
  ·have : i = m := by omega
   subst this
   rw [List.getElem?_append_right (by omega), tl, Nat.sub_self]; rfl
theorem value_go (a : TTable) (l : List TEntry) (hl : l.length ≤ 900) (hs : ∀ e ∈ l, Sm e.fVal) (ha : Holds' a.fSlots l) : ∀ (f i : Nat), l.length ≤ i + f → i ≤ l.length → m_i_TableValue_L2 a (l.take i) (i : Int) = some l
 | f, i, hf, hi => by
  rw [m_i_TableValue_L2]
  have hal := ha.1
  by_cases hc : i < l.length
  ·obtain ⟨g, rfl⟩ : ∃ g, f = g + 1 := ⟨f - 1, by omega⟩
   obtain ⟨k, q⟩ := ha.2 i hc
   have e : idx a.fSlots (i : Int) = some (TSlot.mk l[i].fKey l[i].fVal true k) := by
    obtain ⟨hj, e⟩ := List.getElem?_eq_some_iff.1 q
    rw [idx_nat hj, e]
   have e2 : l.take (i + 1) = l.take i ++ [l[i]] := (List.take_append_getElem (by omega)).symm
   have e4 : TEntry.mk l[i].fKey l[i].fVal = l[i] := by cases l[i]; rfl
   rw [if_pos (by omega), e, sb, if_pos rfl, m46_eq (hs _ (List.getElem_mem hc)), sb, lapp_eq (by simp; omega), sb, e4, ← e2, w_succ (by omega)]
   exact value_go a l hl hs ha g (i + 1) (by omega) (by omega)
  ·have : i = l.length := by omega
   subst this
   rw [if_neg (by omega), List.take_length]
theorem value_eq (a : TTable) (l : List TEntry) (hl : l.length ≤ 900) (hs : ∀ e ∈ l, Sm e.fVal) (ha : Holds' a.fSlots l) : m_i_TableValue a = some (TValue.mk 4 0 [] a.fNext l) := by
 have := value_go a l hl hs ha l.length 0 (by omega) (by omega)
 rw [List.take_zero, show ((0 : Nat) : Int) = 0 from rfl] at this
 unfold m_i_TableValue
 rw [this, sb]
end Go.Am
