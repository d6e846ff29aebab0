/- The plain law: what the reference's check says of any table. -/
import Derived.Test.YtgkniabpdgaoiaaGreatDoorT1
set_option linter.unusedVariables false
set_option linter.unusedSimpArgs false
namespace Go.Am
open Go Go.RowKit Go.Proofs
def zv (v : TValue) : Bool := v.fKind == 0 && v.fNum == 0 && v.fStr == ([] : Str) && v.fNext == 0 && v.fItems.length == 0
theorem zero_eq (v : TValue) : m_s_l7Zero v = some (zv v) := by
 unfold m_s_l7Zero zv
 by_cases h1 : v.fKind = 0
 case neg => rw [if_neg h1]; simp [h1]
 by_cases h2 : v.fNum = 0
 case neg => rw [if_pos h1, if_neg h2]; simp [h2]
 by_cases h3 : v.fStr = ([] : Str)
 case neg => rw [if_pos h1, if_pos h2, if_neg h3]; simp [h3]
 by_cases h4 : v.fNext = 0
 case neg => rw [if_pos h1, if_pos h2, if_pos h3, if_neg h4]; simp [h4]
 rw [if_pos h1, if_pos h2, if_pos h3, if_pos h4, h1, h2, h3, h4]
 congr 1
 by_cases h5 : v.fItems.length = 0
 ·rw [h5]; rfl
 ·simp only [beq_self_eq_true, Bool.true_and]
  rw [beq_eq_false_iff_ne.2 h5]; simp; simpa using h5
def C1 (t : TTable) (i : Nat) (s : TSlot) : Prop :=
 vk s.fKey = true ∧ (s.fKey.fText = true ∨ s.fKey.fNum < t.fNext) ∧ (s.fLive = true ∨ zv s.fVal = true) ∧ (if t.fHashed = true then s.fLink = lnk t.fHeads.length t.fSlots i else s.fKey = TKey.mk false (i : Int) [] ∧ s.fLink = -1)
def D1 (t : TTable) (i : Nat) (s : TSlot) (k : Nat) : Prop :=
 t.fHashed = true → s.fLive = true → ∀ m, k ≤ m → m < i → ∀ h : m < t.fSlots.length, t.fSlots[m].fLive = true → t.fSlots[m].fKey ≠ s.fKey
structure TB (t : TTable) : Prop where
 sl : t.fSlots.length ≤ 2000
 hl : t.fHeads.length ≤ 2000
 kb : ∀ s ∈ t.fSlots, KB s.fKey
 sm : ∀ s ∈ t.fSlots, Sm s.fVal
theorem twin_two (a : TTable) (hb : a.fSlots.length ≤ 2000) (x : TSlot) (i : Nat) (hi : i ≤ a.fSlots.length) : ∀ (f j : Nat), i ≤ j + f → j ≤ i →
  (D1 a i x j → m_s_IsTable_L28 a x (i : Int) (j : Int) = some (.inl ())) ∧ (¬ D1 a i x j → m_s_IsTable_L28 a x (i : Int) (j : Int) = some (.inr (.inr (.inr false))))
 | f, j, hf, hj => by
  rw [m_s_IsTable_L28]
  by_cases h1 : a.fHashed = true
  case neg => rw [if_neg h1]; exact ⟨fun _ => rfl, fun h => absurd (fun q => absurd q h1) h⟩
  by_cases h2 : x.fLive = true
  case neg => rw [if_pos h1, if_neg h2]; exact ⟨fun _ => rfl, fun h => absurd (fun _ q => absurd q h2) h⟩
  rw [if_pos h1, if_pos h2]
  by_cases hc : j < i
  ·obtain ⟨g, rfl⟩ : ∃ g, f = g + 1 := ⟨f - 1, by omega⟩
   have ih := twin_two a hb x i hi g (j + 1) (by omega) (by omega)
   have hjl : j < a.fSlots.length := by omega
   rw [if_pos (by omega), idx_nat hjl, sb, sb, w_succ (by omega)]
   by_cases h3 : a.fSlots[j].fLive = true ∧ a.fSlots[j].fKey = x.fKey
   ·rw [if_pos h3.1, if_pos h3.2]
    exact ⟨fun h => absurd h3.2 (h h1 h2 j (Nat.le_refl _) hc hjl h3.1), fun _ => rfl⟩
   ·have e : D1 a i x j ↔ D1 a i x (j + 1) := by
     constructor
     ·exact fun h q1 q2 m m1 m2 m3 => h q1 q2 m (by omega) m2 m3
     ·intro h q1 q2 m m1 m2 m3 q3
      by_cases e : m = j
      ·subst e; exact fun q => h3 ⟨q3, q⟩
      ·exact h q1 q2 m (by omega) m2 m3 q3
    rw [e]
    by_cases h4 : a.fSlots[j].fLive = true
    ·rw [if_pos h4, if_neg (fun q => h3 ⟨h4, q⟩)]; exact ih
    ·rw [if_neg h4]; exact ih
  ·rw [if_neg (by omega)]
   exact ⟨fun _ => rfl, fun h => absurd (fun _ _ m m1 m2 => by omega) h⟩
def CS (t : TTable) (k : Nat) : Prop := ∀ i, k ≤ i → ∀ h : i < t.fSlots.length, C1 t i t.fSlots[i] ∧ D1 t i t.fSlots[i] 0
theorem CS.step {t : TTable} {k : Nat} (h : k < t.fSlots.length) : CS t k ↔ (C1 t k t.fSlots[k] ∧ D1 t k t.fSlots[k] 0) ∧ CS t (k + 1) := by
 constructor
 ·exact fun q => ⟨q k (Nat.le_refl _) h, fun i hi hl => q i (by omega) hl⟩
 ·rintro ⟨q1, q2⟩ i hi hl
  by_cases e : i = k
  ·subst e; exact q1
  ·exact q2 i (by omega) hl
theorem slots_two (a : TTable) (hb : TB a) (hh : if a.fHashed = true then 0 < a.fHeads.length ∧ a.fHeads.length ≤ 1024 else a.fHeads.length = 0) : ∀ (f i : Nat), a.fSlots.length ≤ i + f → i ≤ a.fSlots.length →
  (CS a i → m_s_IsTable_L24 a ((lv (a.fSlots.take i)).length : Int) (hds a.fHeads.length (a.fSlots.take i)) (i : Int) = some (.inl (((lv a.fSlots).length : Int), hds a.fHeads.length a.fSlots))) ∧
  (¬ CS a i → m_s_IsTable_L24 a ((lv (a.fSlots.take i)).length : Int) (hds a.fHeads.length (a.fSlots.take i)) (i : Int) = some (.inr false))
 | f, i, hf, hi => by
  have hsl := hb.sl
  rw [m_s_IsTable_L24]
  by_cases hc : i < a.fSlots.length
  ·obtain ⟨g, rfl⟩ : ∃ g, f = g + 1 := ⟨f - 1, by omega⟩
   have ih := slots_two a hb hh g (i + 1) (by omega) (by omega)
   have hkb := hb.kb _ (List.getElem_mem hc)
   have hlv : (lv (a.fSlots.take i)).length ≤ i := by have := lv_len (a.fSlots.take i); simp at this; omega
   have hcnt := lv_take hc
   rw [CS.step hc]
   generalize hs : a.fSlots[i] = s at hkb hcnt ⊢
   have tw := twin_two a hb.sl s i (by omega) i 0 (by omega) (by omega)
   rw [show ((0 : Nat) : Int) = 0 from rfl] at tw
   have ewr : ∀ x : Option ((Int × List Int) ⊕ Bool), (C1 a i s ∧ D1 a i s 0 → x = m_s_IsTable_L24 a ((lv (a.fSlots.take (i + 1))).length : Int) (hds a.fHeads.length (a.fSlots.take (i + 1))) ((i + 1 : Nat) : Int)) → (¬ (C1 a i s ∧ D1 a i s 0) → x = some (.inr false)) →
     ((C1 a i s ∧ D1 a i s 0) ∧ CS a (i + 1) → x = some (.inl (((lv a.fSlots).length : Int), hds a.fHeads.length a.fSlots))) ∧ (¬ ((C1 a i s ∧ D1 a i s 0) ∧ CS a (i + 1)) → x = some (.inr false)) := fun x h1 h2 => by
    by_cases q : C1 a i s ∧ D1 a i s 0
    ·rw [h1 q]
     exact ⟨fun h => ih.1 h.2, fun h => ih.2 (fun h' => h ⟨q, h'⟩)⟩
    ·rw [h2 q]
     exact ⟨fun h => absurd h.1 q, fun _ => rfl⟩
   refine ewr _ ?_ ?_
   ·rintro ⟨⟨c1, c2, c3, c4⟩, d1⟩
    rw [if_pos (by omega), idx_nat hc, sb, hs]
    have last : ∀ y : Int, y = s.fLink → hds a.fHeads.length (a.fSlots.take (i + 1)) = (if a.fHashed = true then (hds a.fHeads.length (a.fSlots.take i)).set (bk' a.fHeads.length s.fKey) (i : Int) else hds a.fHeads.length (a.fSlots.take i)) := fun y _ => by
     have e := hds_take (n := a.fHeads.length) hc
     rw [hs] at e
     by_cases h1 : a.fHashed = true
     ·rw [if_pos h1, e]
     ·rw [if_neg h1] at hh ⊢
      have e0 : ∀ L, hds a.fHeads.length L = [] := fun L => List.eq_nil_of_length_eq_zero (by rw [hds_len]; exact hh)
      rw [e0, e0]
    rw [last _ rfl]
    have mid : ((if a.fHashed = true then
      m_s_KeyHash s.fKey >>= fun v83 => must ((a.fHeads.length : Int) ≠ 0) >>= fun _ => idx (hds a.fHeads.length (a.fSlots.take i)) (v83.tmod (a.fHeads.length : Int)) >>= fun x86 => idx (hds a.fHeads.length (a.fSlots.take i)) (v83.tmod (a.fHeads.length : Int)) >>= fun x88 =>
       some (Sum.inl (((hds a.fHeads.length (a.fSlots.take i)).set ((v83.tmod (a.fHeads.length : Int)).toNat) (i : Int)), x86))
      else (if s.fKey = (TKey.mk false (i : Int) []) then some (Sum.inl (hds a.fHeads.length (a.fSlots.take i), (-1))) else some (Sum.inr (Sum.inr (Sum.inr false))))) : Option (((List Int) × Int) ⊕ ((Int × (List Int) × Bool × Int × Str × Int × Int × Str × Int × (List TEntry) × Bool × Int × Int × Int × Bool × Bool × Bool × Bool × Bool × Bool × Bool × Bool × Bool) ⊕ ((Int × (List Int)) ⊕ Bool)))) = some (Sum.inl ((if a.fHashed = true then (hds a.fHeads.length (a.fSlots.take i)).set (bk' a.fHeads.length s.fKey) (i : Int) else hds a.fHeads.length (a.fSlots.take i)), s.fLink)) := by
     by_cases h1 : a.fHashed = true
     ·rw [if_pos h1] at hh c4 ⊢
      obtain ⟨k1, _, _, _⟩ := kh_eq hkb
      obtain ⟨_, k2⟩ := bk_mod hh.1 hh.2 hkb
      have em : must ((a.fHeads.length : Int) ≠ 0) = some () := if_pos (by omega)
      rw [k1, sb, em, sb, k2, hd_idx (bk_lt hh.1 _), sb, sb, Int.toNat_natCast, if_pos h1, c4, lnk_eq hc, hs]
     ·rw [if_neg h1] at c4 ⊢
      rw [if_pos c4.1, if_neg h1, c4.2]
    rw [mid, sb]
    dsimp only
    rw [m23_eq, sb, c1, if_pos rfl, if_pos rfl, zero_eq, tw.1 d1]
    have cl : W64 (((lv (a.fSlots.take i)).length : Int) + 1) = (((lv (a.fSlots.take i)).length + 1 : Nat) : Int) := w_succ (by omega)
    by_cases ht : s.fKey.fText = true
    ·by_cases h3 : s.fLive = true
     ·rw [if_pos ht, if_pos h3]
      simp only [h3, if_true, sb, w_succ (show i < 9223372036854775807 by omega), cl, hcnt, List.length_append, List.length_cons, List.length_nil, Nat.zero_add]
     ·have hz := c3.resolve_left h3
      rw [if_pos ht, if_neg h3]
      simp only [hz, h3, if_true, if_false, sb, w_succ (show i < 9223372036854775807 by omega), hcnt, List.append_nil, Bool.false_eq_true]
    ·have hn := c2.resolve_left ht
     rw [if_neg ht, if_neg (by omega)]
     by_cases h3 : s.fLive = true
     ·simp only [h3, if_true, sb, w_succ (show i < 9223372036854775807 by omega), cl, hcnt, List.length_append, List.length_cons, List.length_nil, Nat.zero_add]
     ·have hz := c3.resolve_left h3
      simp only [hz, h3, if_true, if_false, sb, w_succ (show i < 9223372036854775807 by omega), hcnt, List.append_nil, Bool.false_eq_true]
   ·intro hn
    rw [if_pos (by omega), idx_nat hc, sb, hs]
    by_cases k4 : (if a.fHashed = true then True else s.fKey = TKey.mk false (i : Int) [])
    case neg =>
     by_cases h1 : a.fHashed = true
     ·rw [if_pos h1] at k4; exact absurd trivial k4
     ·rw [if_neg h1] at k4 ⊢
      rw [if_neg k4]; rfl
    have mid : ∃ l, ((if a.fHashed = true then
      m_s_KeyHash s.fKey >>= fun v83 => must ((a.fHeads.length : Int) ≠ 0) >>= fun _ => idx (hds a.fHeads.length (a.fSlots.take i)) (v83.tmod (a.fHeads.length : Int)) >>= fun x86 => idx (hds a.fHeads.length (a.fSlots.take i)) (v83.tmod (a.fHeads.length : Int)) >>= fun x88 =>
       some (Sum.inl (((hds a.fHeads.length (a.fSlots.take i)).set ((v83.tmod (a.fHeads.length : Int)).toNat) (i : Int)), x86))
      else (if s.fKey = (TKey.mk false (i : Int) []) then some (Sum.inl (hds a.fHeads.length (a.fSlots.take i), (-1))) else some (Sum.inr (Sum.inr (Sum.inr false))))) : Option (((List Int) × Int) ⊕ ((Int × (List Int) × Bool × Int × Str × Int × Int × Str × Int × (List TEntry) × Bool × Int × Int × Int × Bool × Bool × Bool × Bool × Bool × Bool × Bool × Bool × Bool) ⊕ ((Int × (List Int)) ⊕ Bool)))) = some (Sum.inl (l, if a.fHashed = true then lnk a.fHeads.length a.fSlots i else -1)) := by
     by_cases h1 : a.fHashed = true
     ·rw [if_pos h1] at hh ⊢
      obtain ⟨k1, _, _, _⟩ := kh_eq hkb
      obtain ⟨_, k2⟩ := bk_mod hh.1 hh.2 hkb
      have em : must ((a.fHeads.length : Int) ≠ 0) = some () := if_pos (by omega)
      rw [k1, sb, em, sb, k2, hd_idx (bk_lt hh.1 _), sb, sb, if_pos h1, lnk_eq hc, hs]
      exact ⟨_, rfl⟩
     ·rw [if_neg h1] at k4 ⊢
      rw [if_pos k4, if_neg h1]
      exact ⟨_, rfl⟩
    obtain ⟨l, mid⟩ := mid
    rw [mid, sb]
    dsimp only
    rw [m23_eq, sb, zero_eq]
    by_cases c1 : vk s.fKey = true
    case neg => rw [if_neg c1]; rfl
    rw [if_pos c1]
    by_cases c4 : s.fLink = (if a.fHashed = true then lnk a.fHeads.length a.fSlots i else -1)
    case neg => rw [if_neg c4]; rfl
    rw [if_pos c4]
    have c4' : (if a.fHashed = true then s.fLink = lnk a.fHeads.length a.fSlots i else s.fKey = TKey.mk false (i : Int) [] ∧ s.fLink = -1) := by
     by_cases h1 : a.fHashed = true
     ·rw [if_pos h1] at c4 ⊢; exact c4
     ·rw [if_neg h1] at c4 k4 ⊢; exact ⟨k4, c4⟩
    by_cases c3 : s.fLive = true ∨ zv s.fVal = true
    case neg =>
     have q1 : ¬ s.fLive = true := fun q => c3 (.inl q)
     have q2 : ¬ zv s.fVal = true := fun q => c3 (.inr q)
     rw [if_neg q1, if_neg q1, sb, sb, if_neg q2, if_neg q2]
     split
     ·rfl
     ·split <;> rfl
    by_cases c2 : s.fKey.fText = true ∨ s.fKey.fNum < a.fNext
    case neg =>
     have q1 : ¬ s.fKey.fText = true := fun q => c2 (.inl q)
     have q2 : s.fKey.fNum ≥ a.fNext := by
      refine Decidable.byContradiction fun q => c2 (.inr (by omega))
     rw [if_neg q1, if_pos q2]; rfl
    have nd : ¬ D1 a i s 0 := fun q => hn ⟨⟨c1, c2, c3, c4'⟩, q⟩
    have go : ∀ x : Option ((Bool × Bool × Bool × Bool) ⊕ ((Int × (List Int) × Bool × Int × Str × Int × Int × Str × Int × (List TEntry) × Bool × Int × Int × Int × Bool × Bool × Bool × Bool × Bool × Bool × Bool × Bool × Bool) ⊕ ((Int × (List Int)) ⊕ Bool))), (∃ p, x = some (.inl p)) → ∀ F : (Bool × Bool × Bool × Bool) → Option ((Int × (List Int)) ⊕ Bool), True := fun _ _ _ => trivial
    rw [tw.2 nd]
    by_cases ht : s.fKey.fText = true
    ·by_cases h3 : s.fLive = true
     ·rw [if_pos ht, if_pos h3]; rfl
     ·have hz := c3.resolve_left h3
      rw [if_pos ht, if_neg h3, sb, if_pos hz]; rfl
    ·have hn := c2.resolve_left ht
     rw [if_neg ht, if_neg (by omega)]
     by_cases h3 : s.fLive = true
     ·rw [if_pos h3]; rfl
     ·have hz := c3.resolve_left h3
      rw [if_neg h3, sb, if_pos hz]; rfl
  ·have : i = a.fSlots.length := by omega
   subst this
   rw [if_neg (by omega), List.take_length]
   exact ⟨fun _ => rfl, fun h => absurd (fun i h1 h2 => by omega) h⟩
end Go.Am
