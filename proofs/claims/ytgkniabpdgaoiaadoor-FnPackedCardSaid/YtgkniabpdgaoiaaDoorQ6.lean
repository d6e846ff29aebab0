/- The plain law: the reference's check of a table. -/
import Derived.Test.YtgkniabpdgaoiaaDoorQ5
set_option linter.unusedVariables false
set_option linter.unusedSimpArgs false
namespace Go.Am
open Go Go.RowKit Go.Proofs
theorem fill2_go (a : TTable) (n : Nat) (hn : n ≤ 100000) (ha : a.fHeads.length = n) : ∀ (f k : Nat) (l : List Int), n ≤ k + f → k ≤ n → l.length = n → (∀ j, j < k → l[j]? = some (-1)) →
  m_s_IsTable_L2 a l (k : Int) = some (List.replicate n (-1))
 | f, k, l, hf, hk, hl, hj => by
  rw [m_s_IsTable_L2]
  by_cases hc : k < n
  ·obtain ⟨g, rfl⟩ : ∃ g, f = g + 1 := ⟨f - 1, by omega⟩
   rw [if_pos (by omega), idx_nat (by omega), sb, w_succ (by omega), Int.toNat_natCast]
   refine fill2_go a n hn ha g (k + 1) _ (by omega) (by omega) (by simpa using hl) (fun j h => ?_)
   rw [List.getElem?_set]
   by_cases q : k = j
   ·rw [if_pos q, if_pos (by omega)]
   ·rw [if_neg q]; exact hj j (by omega)
  ·rw [if_neg (by omega)]
   congr 1
   refine List.ext_getElem? fun j => ?_
   by_cases q : j < n
   ·rw [hj j (by omega), List.getElem?_replicate, if_pos q]
   ·rw [List.getElem?_eq_none (by omega), List.getElem?_eq_none (by simp; omega)]
theorem twin_go (a : TTable) (x : TSlot) (i : Nat) (hi : i ≤ 2000) (hs : ∀ j, j < i → ∃ s, a.fSlots[j]? = some s ∧ s.fKey ≠ x.fKey) : ∀ (f j : Nat), i ≤ j + f → j ≤ i → m_s_IsTable_L28 a x (i : Int) (j : Int) = some (.inl ())
 | f, j, hf, hj => by
  rw [m_s_IsTable_L28]
  by_cases h1 : a.fHashed = true
  case neg => rw [if_neg h1]
  by_cases h2 : x.fLive = true
  case neg => rw [if_pos h1, if_neg h2]
  rw [if_pos h1, if_pos h2]
  by_cases hc : j < i
  ·obtain ⟨g, rfl⟩ : ∃ g, f = g + 1 := ⟨f - 1, by omega⟩
   obtain ⟨s, q1, q2⟩ := hs j hc
   have e : idx a.fSlots (j : Int) = some s := by
    obtain ⟨hj, e⟩ := List.getElem?_eq_some_iff.1 q1
    rw [idx_nat hj, e]
   rw [if_pos (by omega), e, sb, sb, if_neg q2, w_succ (by omega)]
   have := twin_go a x i hi hs g (j + 1) (by omega) (by omega)
   by_cases h3 : s.fLive = true
   ·rw [if_pos h3]; exact this
   ·rw [if_neg h3]; exact this
  ·rw [if_neg (by omega)]
theorem slots_go (a : TTable) (l : List TEntry) (hl : l.length ≤ 900) (hv : ∀ e ∈ l, vk e.fKey = true ∧ (e.fKey.fText = true ∨ e.fKey.fNum < a.fNext)) (hd : (l.map (·.fKey)).Nodup) (H : Nat → List Int) (lk : Nat → Int)
  (ha : a.fSlots.length = l.length) (hat : ∀ i (hi : i < l.length), a.fSlots[i]? = some (TSlot.mk l[i].fKey l[i].fVal true (lk i)))
  (hst : ∀ i (hi : i < l.length), if a.fHashed = true then (0 < a.fHeads.length ∧ a.fHeads.length ≤ 1024 ∧ idx (H i) (bk' a.fHeads.length l[i].fKey : Int) = some (lk i) ∧ (H i).set (bk' a.fHeads.length l[i].fKey) (i : Int) = H (i + 1))
   else l[i].fKey = TKey.mk false (i : Int) [] ∧ lk i = -1 ∧ H (i + 1) = H i) :
  ∀ (f i : Nat), l.length ≤ i + f → i ≤ l.length → m_s_IsTable_L24 a (i : Int) (H i) (i : Int) = some (.inl ((l.length : Int), H l.length))
 | f, i, hf, hi => by
  rw [m_s_IsTable_L24]
  by_cases hc : i < l.length
  ·obtain ⟨g, rfl⟩ : ∃ g, f = g + 1 := ⟨f - 1, by omega⟩
   have hmem : l[i] ∈ l := List.getElem_mem hc
   have e : idx a.fSlots (i : Int) = some (TSlot.mk l[i].fKey l[i].fVal true (lk i)) := by
    obtain ⟨hj, e⟩ := List.getElem?_eq_some_iff.1 (hat i hc)
    rw [idx_nat hj, e]
   have tw := twin_go a (TSlot.mk l[i].fKey l[i].fVal true (lk i)) i (by omega) (fun j hj => ⟨_, hat j (by omega), fun he => by
    have q := List.pairwise_iff_getElem.1 hd j i (by simp; omega) (by simp; omega) hj
    simp at q
    exact q he⟩) i 0 (by omega) (by omega)
   rw [show ((0 : Nat) : Int) = 0 from rfl] at tw
   have ih := slots_go a l hl hv hd H lk ha hat hst g (i + 1) (by omega) (by omega)
   have hs := hst i hc
   obtain ⟨hk, hx⟩ := hv _ hmem
   have mid : ∀ h : List Int, h = H (i + 1) → ((if a.fHashed = true then
     m_s_KeyHash l[i].fKey >>= fun v83 => must ((a.fHeads.length : Int) ≠ 0) >>= fun _ => idx (H i) (v83.tmod (a.fHeads.length : Int)) >>= fun x86 => idx (H i) (v83.tmod (a.fHeads.length : Int)) >>= fun x88 =>
      some (Sum.inl (((H i).set ((v83.tmod (a.fHeads.length : Int)).toNat) (i : Int)), x86))
     else (if l[i].fKey = (TKey.mk false (i : Int) []) then some (Sum.inl (H i, (-1))) else some (Sum.inr (Sum.inr (Sum.inr false))))) : Option (((List Int) × Int) ⊕ ((Int × (List Int) × Bool × Int × Str × Int × Int × Str × Int × (List TEntry) × Bool × Int × Int × Int × Bool × Bool × Bool × Bool × Bool × Bool × Bool × Bool × Bool) ⊕ ((Int × (List Int)) ⊕ Bool)))) = some (Sum.inl (h, lk i)) := fun h hh => by
    subst hh
    by_cases hh : a.fHashed = true
    ·rw [if_pos hh] at hs ⊢
     obtain ⟨p1, p2, p3, p4⟩ := hs
     obtain ⟨k1, _, _, _⟩ := kh_eq hk
     obtain ⟨_, k2⟩ := bk_mod p1 p2 hk
     have em : must ((a.fHeads.length : Int) ≠ 0) = some () := if_pos (by omega)
     rw [k1, sb, em, sb, k2, p3, sb, sb, Int.toNat_natCast, p4]
    ·rw [if_neg hh] at hs ⊢
     obtain ⟨p1, p2, p3⟩ := hs
     rw [if_pos p1, p2, p3]
   rw [if_pos (by omega), e, sb]
   dsimp only
   rw [mid _ rfl, sb]
   dsimp only
   rw [m23_eq, sb, hk, if_pos rfl, if_pos rfl, tw]
   by_cases ht : l[i].fKey.fText = true
   ·rw [if_pos ht]
    simp only [if_true, sb, w_succ (show i < 9223372036854775807 by omega)]
    exact ih
   ·have hn := hx.resolve_left ht
    rw [if_neg ht, if_neg (by omega)]
    simp only [if_true, sb, w_succ (show i < 9223372036854775807 by omega)]
    exact ih
  ·have : i = l.length := by omega
   subst this
   rw [if_neg (by omega)]
theorem same_heads (a : TTable) (l : List Int) (hl : a.fHeads = l) (hn : l.length ≤ 2000) : ∀ (f i : Nat), l.length ≤ i + f → i ≤ l.length → m_s_IsTable_L30 a l (i : Int) = some (.inl ())
 | f, i, hf, hi => by
  rw [m_s_IsTable_L30, hl]
  by_cases hc : i < l.length
  ·obtain ⟨g, rfl⟩ : ∃ g, f = g + 1 := ⟨f - 1, by omega⟩
   rw [if_pos (by omega), idx_nat hc, sb, sb, if_pos rfl, w_succ (by omega)]
   exact same_heads a l hl hn g (i + 1) (by omega) (by omega)
  ·rw [if_neg (by omega)]
end Go.Am
