/- The plain law: the tables that are drawn. -/
import Derived.Test.YtgkniabpdgaoiaaGreatDoorT1
import Derived.Test.YtgkniabpdgaoiaaGreatDoorK7
set_option linter.unusedVariables false
set_option linter.unusedSimpArgs false
namespace Go.Am
open Go Go.RowKit Go.Proofs
theorem m39_mem {c : TL1Cur} {l : List Str} {x : Str} {c' : TL1Cur} (h : m39 c l = some (x, c')) : x ∈ l := by
 unfold m39 at h
 obtain ⟨⟨v, c1⟩, _, h⟩ := bd h
 obtain ⟨x4, e, h⟩ := bd h
 injection h with h
 injection h with h _
 subst h
 unfold idx at e
 split at e
 ·injection e with e
  rename_i hh
  have hv : v.toNat < l.length := by omega
  have : l[v.toNat]? = some x4 := by
   rw [← e, List.getD_eq_getElem?_getD, List.getElem?_eq_getElem hv]; rfl
  exact List.mem_of_getElem? this
 ·cases e
theorem m47_kb {c : TL1Cur} (h : Cu c) : ∃ x c', m47 c = some (x, c') ∧ KB x ∧ Cu c' := by
 unfold m47
 obtain ⟨b, c1, e1, h1⟩ := m37_ok h (n := 3) (by decide) (by decide)
 replace e1 : m37 c 3 = some (b, c1) := e1
 rw [e1, sb]
 show ∃ x c', (if b = true then _ else _) = some (x, c') ∧ KB x ∧ Cu c'
 split
 ·obtain ⟨x, c', e, hc⟩ := m39_ok h1 ([[97], [98], [99], [], [48, 53], [120]] : List Str) (by decide) (by decide)
  rw [e, sb]
  refine ⟨_, _, rfl, ?_, hc⟩
  have hm := m39_mem e
  have : ∀ y ∈ ([[97], [98], [99], [], [48, 53], [120]] : List Str), y.length ≤ 1000 := by decide
  exact this x hm
 ·obtain ⟨x, c', e, hc⟩ := m85_ok h1 ([0, 1, 2, 3, 4, (-1), 7, 1000000000, (-1000000000)] : List Int) (by decide) (by decide)
  rw [e, sb]
  exact ⟨_, _, rfl, Nat.zero_le _, hc⟩
structure WT (m : Nat) (t : TTable) : Prop where
 hh : if t.fHashed = true then (8 ≤ t.fHeads.length ∧ t.fHeads.length ≤ 128) ∧ ∀ b, b < t.fHeads.length → -1 ≤ t.fHeads.getD b 0 ∧ t.fHeads.getD b 0 < (t.fSlots.length : Int) else t.fHeads = []
 lk : ∀ i (h : i < t.fSlots.length), -1 ≤ t.fSlots[i].fLink ∧ t.fSlots[i].fLink < (i : Int)
 sl : t.fSlots.length ≤ m
 ct : -(m : Int) ≤ t.fCount ∧ t.fCount ≤ (m : Int)
 kb : ∀ s ∈ t.fSlots, KB s.fKey ∧ s.fVal.wt = 1
theorem WT.mono {m n : Nat} {t : TTable} (h : WT m t) (hmn : m ≤ n) : WT n t := ⟨h.hh, h.lk, by have := h.sl; omega, by have := h.ct; omega, h.kb⟩
theorem chainS {t : TTable} {m : Nat} (h : WT m t) (hm : m ≤ 100) (k : TKey) : ∀ (f : Nat) (y : Int), y < f → -1 ≤ y → y < (t.fSlots.length : Int) → ∃ r, m_s_l7Find_L2 t k y = some r ∧ (r = .inl () ∨ ∃ j : Nat, r = .inr (j : Int) ∧ j < t.fSlots.length)
 | 0, y, h0, h1, h2 => by rw [m_s_l7Find_L2, if_neg (by omega)]; exact ⟨_, rfl, .inl rfl⟩
 | f + 1, y, h0, h1, h2 => by
  rw [m_s_l7Find_L2]
  by_cases hc : y ≥ 0
  ·obtain ⟨j, rfl⟩ : ∃ j : Nat, y = (j : Int) := ⟨y.toNat, by omega⟩
   have hj : j < t.fSlots.length := by omega
   obtain ⟨q1, q2⟩ := h.lk j hj
   have ih := chainS h hm k f t.fSlots[j].fLink (by omega) q1 (by omega)
   rw [if_pos hc, idx_nat hj, sb]
   by_cases c1 : t.fSlots[j].fLive = true
   ·rw [if_pos c1, sb]
    by_cases c2 : t.fSlots[j].fKey = k
    ·rw [if_pos c2]; exact ⟨_, rfl, .inr ⟨j, rfl, hj⟩⟩
    ·rw [if_neg c2, sb]; exact ih
   ·rw [if_neg c1, sb]; exact ih
  ·rw [if_neg hc]; exact ⟨_, rfl, .inl rfl⟩
theorem findS {t : TTable} {m : Nat} (h : WT m t) (hm : m ≤ 100) {k : TKey} (hk : KB k) : ∃ r, m_s_l7Find t k = some r ∧ (r = -1 ∨ ∃ j : Nat, r = (j : Int) ∧ j < t.fSlots.length) := by
 have hsl := h.sl
 unfold m_s_l7Find
 have hh := h.hh
 by_cases q : t.fHashed = true
 ·rw [if_pos q] at hh ⊢
  obtain ⟨⟨b1, b2⟩, hb⟩ := hh
  obtain ⟨k1, _, _, _⟩ := kh_eq hk
  obtain ⟨_, k2⟩ := bk_mod (n := t.fHeads.length) (by omega) (by omega) hk
  have hbk := bk_lt (n := t.fHeads.length) (by omega) k
  have em : must ((t.fHeads.length : Int) ≠ 0) = some () := if_pos (by omega)
  have ei : idx t.fHeads (bk' t.fHeads.length k : Int) = some (t.fHeads.getD (bk' t.fHeads.length k) 0) := by
   rw [idx_nat hbk, List.getD_eq_getElem?_getD, List.getElem?_eq_getElem hbk]; rfl
  obtain ⟨h1, h2⟩ := hb _ hbk
  obtain ⟨r, e, hr⟩ := chainS h hm k (t.fSlots.length) (t.fHeads.getD (bk' t.fHeads.length k) 0) h2 h1 h2
  rw [k1, sb, em, sb, k2, ei, sb, e, sb]
  rcases hr with rfl | ⟨j, rfl, hj⟩
  ·exact ⟨_, rfl, .inl rfl⟩
  ·exact ⟨_, rfl, .inr ⟨j, rfl, hj⟩⟩
 ·rw [if_neg q]
  by_cases q1 : k.fText = true
  ·rw [if_pos q1]; exact ⟨_, rfl, .inl rfl⟩
  have ew : W64 ((t.fSlots.length : Int) - 1) = (t.fSlots.length : Int) - 1 := by rw [W64, w64 (by omega) (by omega)]
  rw [if_neg q1, ew, m53_eq, sb]
  by_cases q2 : 0 ≤ k.fNum ∧ k.fNum ≤ (t.fSlots.length : Int) - 1
  ·rw [decide_eq_true q2, if_pos rfl]
   obtain ⟨j, hj⟩ : ∃ j : Nat, k.fNum = (j : Int) := ⟨k.fNum.toNat, by omega⟩
   have hjl : j < t.fSlots.length := by omega
   rw [hj, idx_nat hjl, sb]
   split
   ·rw [sb]
    split
    ·exact ⟨_, rfl, .inr ⟨j, rfl, hjl⟩⟩
    ·exact ⟨_, rfl, .inl rfl⟩
   ·exact ⟨_, rfl, .inl rfl⟩
  ·rw [decide_eq_false q2, if_neg (by simp)]; exact ⟨_, rfl, .inl rfl⟩
theorem pushS {t : TTable} {m : Nat} (h : WT m t) (hm : m ≤ 100) {k : TKey} (hk : KB k) {v : TValue} (hv : v.wt = 1) :
  ∃ t', m_s_l7Push t k v = some t' ∧ WT (m + 1) t' ∧ t'.fHashed = t.fHashed ∧ t'.fHeads.length = t.fHeads.length := by
 have hsl := h.sl
 have hct := h.ct
 have hh := h.hh
 have ec : W64 (t.fCount + 1) = t.fCount + 1 := by rw [W64, w64 (by omega) (by omega)]
 have fin : ∀ (H : List Int) (y : Int) (nx : Int), -1 ≤ y → y < (t.fSlots.length : Int) → (if t.fHashed = true then (8 ≤ H.length ∧ H.length ≤ 128) ∧ ∀ b, b < H.length → -1 ≤ H.getD b 0 ∧ H.getD b 0 < ((t.fSlots.length + 1 : Nat) : Int) else H = []) →
   WT (m + 1) (TTable.mk t.fHashed H (t.fSlots ++ [TSlot.mk k v true y]) nx (t.fCount + 1)) := fun H y nx y1 y2 hH => by
  refine ⟨?_, fun i hi => ?_, by simp; omega, by dsimp only; omega, fun s hs => ?_⟩
  ·dsimp only
   rw [List.length_append]
   exact hH
  ·by_cases q : i < t.fSlots.length
   ·have e : (t.fSlots ++ [TSlot.mk k v true y])[i]'hi = t.fSlots[i] := List.getElem_append_left q
    dsimp only
    rw [e]; exact h.lk i q
   ·have : i = t.fSlots.length := by simp at hi; omega
    subst this
    simp
    omega
  ·rcases List.mem_append.1 hs with q | q
   ·exact h.kb s q
   ·obtain rfl := List.mem_singleton.1 q
    exact ⟨hk, hv⟩
 have tail : ∀ (H : List Int) (y : Int), H.length = t.fHeads.length → (∀ nx, WT (m + 1) (TTable.mk t.fHashed H (t.fSlots ++ [TSlot.mk k v true y]) nx (t.fCount + 1))) →
   ∃ t', (lapp 112 t.fSlots ([(TSlot.mk k v true y)] : List TSlot) >>= fun l14 => (if k.fText = true then some (TTable.mk t.fHashed H l14 t.fNext (W64 (t.fCount + 1))) else m91 t.fNext (W64 (k.fNum + 1)) >>= fun v17 => some (TTable.mk t.fHashed H l14 v17 (W64 (t.fCount + 1))))) = some t' ∧ WT (m + 1) t' ∧ t'.fHashed = t.fHashed ∧ t'.fHeads.length = t.fHeads.length := fun H y hl hw => by
  rw [lapp_eq (by simp; omega), sb, ec]
  by_cases ht : k.fText = true
  ·rw [if_pos ht]; exact ⟨_, rfl, hw _, rfl, hl⟩
  ·rw [if_neg ht, m91_eq, sb]; exact ⟨_, rfl, hw _, rfl, hl⟩
 unfold m_s_l7Push
 by_cases q : t.fHashed = true
 ·rw [if_pos q] at hh
  obtain ⟨⟨b1, b2⟩, hb⟩ := hh
  obtain ⟨k1, _, _, _⟩ := kh_eq hk
  obtain ⟨_, k2⟩ := bk_mod (n := t.fHeads.length) (by omega) (by omega) hk
  have hbk := bk_lt (n := t.fHeads.length) (by omega) k
  have em : must ((t.fHeads.length : Int) ≠ 0) = some () := if_pos (by omega)
  have ei : idx t.fHeads (bk' t.fHeads.length k : Int) = some (t.fHeads.getD (bk' t.fHeads.length k) 0) := by
   rw [idx_nat hbk, List.getD_eq_getElem?_getD, List.getElem?_eq_getElem hbk]; rfl
  obtain ⟨h1, h2⟩ := hb _ hbk
  rw [if_pos q, k1, sb, em, sb, k2, ei, sb, sb, sb, Int.toNat_natCast]
  refine tail _ _ (by simp) (fun nx => fin _ _ nx h1 h2 ?_)
  rw [if_pos q, List.length_set]
  refine ⟨⟨b1, b2⟩, fun b hbl => ?_⟩
  rw [List.getD_eq_getElem?_getD, List.getElem?_set]
  by_cases e : bk' t.fHeads.length k = b
  ·rw [if_pos e, if_pos hbk]; simp; omega
  ·have := hb b hbl
   rw [if_neg e, ← List.getD_eq_getElem?_getD]; omega
 ·rw [if_neg q] at hh
  rw [if_neg q, sb]
  refine tail _ _ rfl (fun nx => fin _ _ nx (by omega) (by omega) ?_)
  rw [if_neg q]; exact hh
theorem roomS (a : TTable) (c : Int) (hc : a.fCount = c) (h : c ≤ 100) : ∃ n : Nat, m_s_l7Room a = some (n : Int) ∧ 8 ≤ n ∧ n ≤ 128 := by
 have st : ∀ y : Nat, y ≤ 1024 → m_s_l7Room_L2 a (y : Int) = if (y : Int) ≤ c then m_s_l7Room_L2 a ((2 * y : Nat) : Int) else some (y : Int) := fun y hy => by
  rw [m_s_l7Room_L2, hc]
  by_cases q : (y : Int) ≤ c
  ·rw [if_pos (by omega), if_pos q]
   have e : W64 (2 * (y : Int)) = ((2 * y : Nat) : Int) := w_nat (by omega) (by omega)
   rw [e]
  ·rw [if_neg (by omega), if_neg q]
 have s8 := st 8 (by omega)
 have s16 := st 16 (by omega)
 have s32 := st 32 (by omega)
 have s64 := st 64 (by omega)
 have s128 := st 128 (by omega)
 rw [show ((8 : Nat) : Int) = 8 from rfl] at s8
 have fin : ∀ n : Nat, m_s_l7Room_L2 a 8 = some (n : Int) → 8 ≤ n → n ≤ 128 → ∃ n : Nat, m_s_l7Room a = some (n : Int) ∧ 8 ≤ n ∧ n ≤ 128 := fun n e h1 h2 => by
  refine ⟨n, ?_, h1, h2⟩
  unfold m_s_l7Room
  rw [e]; rfl
 by_cases q1 : (8 : Int) ≤ c
 case neg => rw [if_neg q1] at s8; exact fin 8 s8 (by omega) (by omega)
 rw [if_pos q1] at s8
 by_cases q2 : ((16 : Nat) : Int) ≤ c
 case neg => rw [if_neg q2] at s16; exact fin 16 (s8.trans s16) (by omega) (by omega)
 rw [if_pos q2] at s16
 by_cases q3 : ((32 : Nat) : Int) ≤ c
 case neg => rw [if_neg q3] at s32; exact fin 32 (s8.trans (s16.trans s32)) (by omega) (by omega)
 rw [if_pos q3] at s32
 by_cases q4 : ((64 : Nat) : Int) ≤ c
 case neg => rw [if_neg q4] at s64; exact fin 64 (s8.trans (s16.trans (s32.trans s64))) (by omega) (by omega)
 rw [if_pos q4] at s64
 rw [if_neg (by omega)] at s128
 exact fin 128 (s8.trans (s16.trans (s32.trans (s64.trans s128)))) (by omega) (by omega)
theorem fillS (n : Nat) (hn : n ≤ 1000) (a b : List Int) (c d : List TSlot) : ∀ (f k : Nat), n ≤ k + f → k ≤ n → m_s_l7Build_L2 (n : Int) a c (List.replicate k (-1)) d (k : Int) = some (a, c, List.replicate n (-1), d)
 | f, k, hf, hk => by
  rw [m_s_l7Build_L2]
  by_cases hc : k < n
  ·obtain ⟨g, rfl⟩ : ∃ g, f = g + 1 := ⟨f - 1, by omega⟩
   rw [if_pos (by omega), lapp_eq (by simp; omega), sb, w_succ (by omega), ← List.replicate_succ']
   exact fillS n hn a b c d g (k + 1) (by omega) (by omega)
  ·have : k = n := by omega
   subst this
   rw [if_neg (by omega)]
theorem buildS_go {t : TTable} {m : Nat} (h : WT m t) (hm : m ≤ 100) : ∀ (f i : Nat) (u : TTable), t.fSlots.length ≤ i + f → i ≤ t.fSlots.length → WT i u → u.fHashed = true →
  ∃ u', m_s_l7Build_L4 t u.fHashed u.fNext u.fCount u.fHeads u.fSlots (i : Int) = some (u'.fHashed, u'.fNext, u'.fCount, u'.fHeads, u'.fSlots) ∧ WT t.fSlots.length u' ∧ u'.fHashed = true
 | f, i, u, hf, hi, hu, hb => by
  have hsl := h.sl
  rw [m_s_l7Build_L4]
  by_cases hc : i < t.fSlots.length
  ·obtain ⟨g, rfl⟩ : ∃ g, f = g + 1 := ⟨f - 1, by omega⟩
   rw [if_pos (by omega), idx_nat hc, sb, w_succ (by omega)]
   by_cases q : t.fSlots[i].fLive = true
   ·obtain ⟨k1, k2⟩ := h.kb _ (List.getElem_mem hc)
    obtain ⟨u', e, h1, h2, _⟩ := pushS hu (by omega) k1 k2
    rw [if_pos q, sb, sb, show TTable.mk u.fHashed u.fHeads u.fSlots u.fNext u.fCount = u from rfl, e, sb]
    exact buildS_go h hm g (i + 1) u' (by omega) (by omega) h1 (h2.trans hb)
   ·rw [if_neg q]
    exact buildS_go h hm g (i + 1) u (by omega) (by omega) (hu.mono (by omega)) hb
  ·have : i = t.fSlots.length := by omega
   subst this
   rw [if_neg (by omega)]
   exact ⟨u, rfl, hu, hb⟩
theorem buildS {t : TTable} {m : Nat} (h : WT m t) (hm : m ≤ 100) {n : Nat} (h1 : 8 ≤ n) (h2 : n ≤ 128) : ∃ u, m_s_l7Build t (n : Int) = some u ∧ WT m u ∧ u.fHashed = true := by
 have e1 := fillS n (by omega) [] [] [] [] n 0 (by omega) (by omega)
 rw [List.replicate_zero, show ((0 : Nat) : Int) = 0 from rfl] at e1
 obtain ⟨u, e2, h3, h4⟩ := buildS_go h hm t.fSlots.length 0 (TTable.mk true (List.replicate n (-1)) [] t.fNext 0) (by omega) (by omega) (by
  refine ⟨?_, fun i hi => by simp at hi, by simp, by simp, fun s hs => by simp at hs⟩
  rw [if_pos rfl]
  refine ⟨⟨by simpa using h1, by simpa using h2⟩, fun b hb => ?_⟩
  have hb' : b < n := by simpa using hb
  show -1 ≤ (List.replicate n (-1 : Int)).getD b 0 ∧ (List.replicate n (-1 : Int)).getD b 0 < ((0 : Nat) : Int)
  rw [List.getD_eq_getElem?_getD, List.getElem?_replicate, if_pos hb']; simp) rfl
 have e2' : m_s_l7Build_L4 t true t.fNext 0 (List.replicate n (-1)) [] 0 = some (u.fHashed, u.fNext, u.fCount, u.fHeads, u.fSlots) := e2
 unfold m_s_l7Build
 rw [e1, sb]
 dsimp only
 rw [e2', sb]
 exact ⟨u, rfl, h3.mono h.sl, h4⟩
theorem rebS {t : TTable} {m : Nat} (h : WT m t) (hm : m ≤ 100) : ∃ n u, m_s_l7Room t = some n ∧ m_s_l7Build t n = some u ∧ WT m u ∧ u.fHashed = true := by
 obtain ⟨n, e, h1, h2⟩ := roomS t t.fCount rfl (by have := h.ct; omega)
 obtain ⟨u, e2, h3, h4⟩ := buildS h hm h1 h2
 exact ⟨_, u, e, e2, h3, h4⟩
theorem setS {t : TTable} {m : Nat} (h : WT m t) (hm : m ≤ 100) {k : TKey} (hk : KB k) {v : TValue} (hv : v.wt = 1) : ∃ t' b, m_s_l7Set t k v = some (t', b) ∧ WT (m + 1) t' := by
 obtain ⟨r, er, hr⟩ := findS h hm hk
 have hsl := h.sl
 have hct := h.ct
 unfold m_s_l7Set
 rw [er, sb]
 rcases hr with rfl | ⟨j, rfl, hj⟩
 ·rw [if_neg (by omega), if_neg (by omega)]
  have last : ∀ u : TTable, WT m u → ∃ t' b, (m_s_l7Push u k v >>= fun v34 => some (v34, true)) = some (t', b) ∧ WT (m + 1) t' := fun u hu => by
   obtain ⟨t', e, h1, _⟩ := pushS hu hm hk hv
   rw [e, sb]; exact ⟨_, _, rfl, h1⟩
  have tail : ∀ u : TTable, WT m u → ∃ t' b, (if u.fHashed = true then
    (if (u.fSlots.length : Int) = (u.fHeads.length : Int) then
     m_s_l7Room (TTable.mk u.fHashed u.fHeads u.fSlots u.fNext u.fCount) >>= fun v28 => m_s_l7Build (TTable.mk u.fHashed u.fHeads u.fSlots u.fNext u.fCount) v28 >>= fun v30 => m_s_l7Push v30 k v >>= fun v32 => some (v32, true)
    else m_s_l7Push (TTable.mk u.fHashed u.fHeads u.fSlots u.fNext u.fCount) k v >>= fun v34 => some (v34, true))
    else m_s_l7Push (TTable.mk u.fHashed u.fHeads u.fSlots u.fNext u.fCount) k v >>= fun v36 => some (v36, true)) = some (t', b) ∧ WT (m + 1) t' := fun u hu => by
   rw [show TTable.mk u.fHashed u.fHeads u.fSlots u.fNext u.fCount = u from rfl]
   split
   ·split
    ·obtain ⟨n, w, e1, e2, h1, _⟩ := rebS hu hm
     rw [e1, sb, e2, sb]; exact last w h1
    ·exact last u hu
   ·exact last u hu
  by_cases q : t.fHashed = true
  ·rw [if_pos q, sb]; exact tail t h
  ·rw [if_neg q]
   by_cases q1 : k = TKey.mk false (t.fSlots.length : Int) []
   ·rw [if_pos q1, if_neg (by omega), sb]; exact tail t h
   ·obtain ⟨n, w, e1, e2, h1, _⟩ := rebS h hm
    rw [if_neg q1, e1, sb, e2, sb, sb]; exact tail w h1
 ·rw [if_pos (by omega), idx_nat hj, sb, Int.toNat_natCast]
  refine ⟨_, _, rfl, ?_⟩
  refine ⟨?_, fun i hi => ?_, by simp; omega, by dsimp only; omega, fun s hs => ?_⟩
  ·have hh := h.hh
   dsimp only
   rw [List.length_set]; exact hh
  ·dsimp only at hi ⊢
   rw [List.getElem_set]
   split
   ·rename_i e; subst e; exact h.lk j hj
   ·exact h.lk i (by simpa using hi)
  ·rcases List.mem_or_eq_of_mem_set hs with q | rfl
   ·exact h.kb s q
   ·exact ⟨(h.kb _ (List.getElem_mem hj)).1, hv⟩
theorem dropS {t : TTable} {m : Nat} (h : WT m t) (hm : m ≤ 100) {k : TKey} (hk : KB k) : ∃ t', m_s_l7Drop t k = some t' ∧ WT (m + 1) t' := by
 obtain ⟨r, er, hr⟩ := findS h hm hk
 have hsl := h.sl
 have hct := h.ct
 unfold m_s_l7Drop
 rw [er, sb]
 rcases hr with rfl | ⟨j, rfl, hj⟩
 ·rw [if_neg (by omega)]; exact ⟨_, rfl, h.mono (by omega)⟩
 ·have ec : W64 (t.fCount - 1) = t.fCount - 1 := by rw [W64, w64 (by omega) (by omega)]
  have e2 : ∀ s : TSlot, idx (t.fSlots.set j s) (j : Int) = some s := fun s => by rw [idx_nat (by simpa using hj), List.getElem_set_self]
  rw [if_pos (by omega), idx_nat hj, sb, Int.toNat_natCast, e2, sb, ec, List.set_set]
  refine ⟨_, rfl, ?_⟩
  refine ⟨?_, fun i hi => ?_, by simp; omega, by dsimp only; omega, fun s hs => ?_⟩
  ·have hh := h.hh
   dsimp only
   rw [List.length_set]; exact hh
  ·dsimp only at hi ⊢
   rw [List.getElem_set]
   split
   ·rename_i e; subst e; exact h.lk j hj
   ·exact h.lk i (by simpa using hi)
  ·rcases List.mem_or_eq_of_mem_set hs with q | rfl
   ·exact h.kb s q
   ·exact ⟨(h.kb _ (List.getElem_mem hj)).1, dv_flat _ _ _ _⟩
theorem draw_go (a b : List Int) (c d : List TSlot) (a1 : List Int) (c1 : List TSlot) : ∀ (n m : Nat), n + m ≤ 40 → ∀ (cu : TL1Cur) (t : TTable), Cu cu → WT m t →
  ∃ b' i' h' x y t', m_s_l7Draw_L2 cu.fB cu.fI cu.fH a1 c1 t.fHashed t.fNext t.fCount t.fHeads t.fSlots (n : Int) = some (b', i', h', x, y, t'.fHashed, t'.fNext, t'.fCount, t'.fHeads, t'.fSlots) ∧ Cu (TL1Cur.mk b' i' h') ∧ WT 40 t'
 | 0, m, hnm, cu, t, hc, ht => by
  rw [m_s_l7Draw_L2, if_neg (by omega)]
  exact ⟨_, _, _, _, _, t, rfl, hc, ht.mono (by omega)⟩
 | n + 1, m, hnm, cu, t, hc, ht => by
  rw [m_s_l7Draw_L2, if_pos (by omega), idw (show n < 1000 by omega)]
  obtain ⟨v, c2, e1, _, h1⟩ := m40_ok hc (n := 5) (by decide) (by decide)
  replace e1 : m40 (TL1Cur.mk cu.fB cu.fI cu.fH) 5 = some ((v : Int), c2) := e1
  rw [e1, sb]
  dsimp only
  by_cases q1 : (v : Int) = 0
  ·obtain ⟨k, c3, e3, hk, h3⟩ := m47_kb h1
   obtain ⟨t', e4, h4⟩ := dropS ht (by omega) hk
   rw [if_pos q1, e3, sb]
   dsimp only
   rw [show TTable.mk t.fHashed t.fHeads t.fSlots t.fNext t.fCount = t from rfl, e4, sb]
   exact draw_go a b c d a1 c1 n (m + 1) (by omega) c3 t' h3 h4
  rw [if_neg q1]
  by_cases q2 : (v : Int) = 1
  ·obtain ⟨k, c3, e3, hk, h3⟩ := m47_kb h1
   obtain ⟨x, c4, e4, hx, h4⟩ := m89_ok h3
   obtain ⟨t', bb, e5, h5⟩ := setS ht (by omega) hk hx
   rw [if_pos q2, e3, sb]
   dsimp only
   rw [e4, sb]
   dsimp only
   rw [show TTable.mk t.fHashed t.fHeads t.fSlots t.fNext t.fCount = t from rfl, e5, sb]
   exact draw_go a b c d a1 c1 n (m + 1) (by omega) c4 t' h4 h5
  rw [if_neg q2]
  by_cases q3 : t.fNext ≤ 1000000000
  ·obtain ⟨x, c4, e4, hx, h4⟩ := m89_ok h1
   obtain ⟨t', bb, e5, h5⟩ := setS ht (by omega) (k := TKey.mk false t.fNext []) (Nat.zero_le _) hx
   rw [if_pos q3, e4, sb]
   dsimp only
   rw [show TTable.mk t.fHashed t.fHeads t.fSlots t.fNext t.fCount = t from rfl, e5, sb]
   exact draw_go a b c d a1 c1 n (m + 1) (by omega) c4 t' h4 h5
  ·rw [if_neg q3]
   exact draw_go a b c d a1 c1 n (m + 1) (by omega) c2 t h1 (ht.mono (by omega))
structure TD (t : TTable) : Prop where
 sl : t.fSlots.length ≤ 40
 hl : t.fHeads.length ≤ 128
 kb : ∀ s ∈ t.fSlots, KB s.fKey ∧ s.fVal.wt = 1
theorem WT.td {t : TTable} (h : WT 40 t) : TD t := by
 refine ⟨h.sl, ?_, h.kb⟩
 have hh := h.hh
 split at hh
 ·exact hh.1.2
 ·rw [hh]; simp
theorem drawS {c : TL1Cur} (h : Cu c) : ∃ t c', m_s_l7Draw c = some (t, c') ∧ TD t ∧ Cu c' := by
 obtain ⟨v, c2, e1, hv, h1⟩ := m40_ok h (n := 20) (by decide) (by decide)
 replace e1 : m40 c 20 = some ((v : Int), c2) := e1
 obtain ⟨b', i', h', x, y, t', e, q1, q2⟩ := draw_go [] [] [] [] [] [] v 0 (by omega) c2 (TTable.mk false [] [] 0 0) h1 (by
  refine ⟨?_, fun i hi => by simp at hi, by simp, by simp, fun s hs => by simp at hs⟩
  rw [if_neg (by simp)])
 unfold m_s_l7Draw
 rw [e1, sb]
 have e' : m_s_l7Draw_L2 c2.fB c2.fI c2.fH [] [] false 0 0 [] [] (v : Int) = some (b', i', h', x, y, t'.fHashed, t'.fNext, t'.fCount, t'.fHeads, t'.fSlots) := e
 dsimp only
 rw [e', sb]
 exact ⟨t', TL1Cur.mk b' i' h', rfl, q2.td, q1⟩
theorem anyS {c : TL1Cur} (h : Cu c) : ∃ t c', m_s_l7Any c = some (t, c') ∧ TD t ∧ Cu c' := by
 obtain ⟨t, c1, e1, ht, h1⟩ := drawS h
 obtain ⟨v, c2, e2, _, h2⟩ := m40_ok h1 (n := 14) (by decide) (by decide)
 replace e2 : m40 c1 14 = some ((v : Int), c2) := e2
 have hsl := ht.sl
 unfold m_s_l7Any
 rw [e1, sb]
 dsimp only
 rw [e2, sb]
 dsimp only
 by_cases q0 : (v : Int) = 0
 ·obtain ⟨x, c3, e3, h3⟩ := m48_ok h2
  rw [if_pos q0, e3, sb]
  exact ⟨_, _, rfl, ⟨ht.sl, ht.hl, ht.kb⟩, h3⟩
 rw [if_neg q0]
 by_cases q1 : (v : Int) = 1
 ·rw [if_pos q1]; exact ⟨_, _, rfl, ⟨ht.sl, ht.hl, ht.kb⟩, h2⟩
 rw [if_neg q1]
 by_cases q2 : (v : Int) = 2
 ·rw [if_pos q2]; exact ⟨_, _, rfl, ⟨ht.sl, ht.hl, ht.kb⟩, h2⟩
 rw [if_neg q2]
 by_cases q3 : (v : Int) = 3
 ·rw [if_pos q3]
  by_cases q4 : (t.fSlots.length : Int) > 0
  ·obtain ⟨j, c3, e3, hj, h3⟩ := m40_ok h2 (n := t.fSlots.length) (by omega) (by omega)
   obtain ⟨w, c4, e4, _, h4⟩ := m40_ok h3 (n := 5) (by decide) (by decide)
   replace e4 : m40 c3 5 = some ((w : Int), c4) := e4
   rw [if_pos q4, e3, sb]
   dsimp only
   rw [e4, sb]
   dsimp only
   rw [idx_nat hj, sb, Int.toNat_natCast]
   refine ⟨_, _, rfl, ⟨by simpa using ht.sl, ht.hl, fun s hs => ?_⟩, h4⟩
   rcases List.mem_or_eq_of_mem_set hs with q | rfl
   ·exact ht.kb s q
   ·exact ⟨(ht.kb _ (List.getElem_mem hj)).1, (ht.kb _ (List.getElem_mem hj)).2⟩
  ·rw [if_neg q4]; exact ⟨_, _, rfl, ht, h2⟩
 rw [if_neg q3]
 by_cases q5 : (v : Int) = 4
 ·rw [if_pos q5]
  by_cases q4 : (t.fSlots.length : Int) > 0
  ·obtain ⟨j, c3, e3, hj, h3⟩ := m40_ok h2 (n := t.fSlots.length) (by omega) (by omega)
   obtain ⟨k, c4, e4, hk, h4⟩ := m47_kb h3
   rw [if_pos q4, e3, sb]
   dsimp only
   rw [e4, sb]
   dsimp only
   rw [idx_nat hj, sb, Int.toNat_natCast]
   refine ⟨_, _, rfl, ⟨by simpa using ht.sl, ht.hl, fun s hs => ?_⟩, h4⟩
   rcases List.mem_or_eq_of_mem_set hs with q | rfl
   ·exact ht.kb s q
   ·exact ⟨hk, (ht.kb _ (List.getElem_mem hj)).2⟩
  ·rw [if_neg q4]; exact ⟨_, _, rfl, ht, h2⟩
 rw [if_neg q5]
 exact ⟨_, _, rfl, ht, h2⟩
theorem drawSet {b : List UInt8} (h : b.length ≤ 1048576) : ∃ t k v, m_s_DrawTableSet b = some (t, k, v) ∧ TD t ∧ KB k ∧ v.wt ≤ 11 := by
 obtain ⟨c, e0, hc⟩ := m36_ok h
 obtain ⟨k, c1, e1, hk, h1⟩ := m47_kb hc
 obtain ⟨bb, c2, e2, h2⟩ := m37_ok h1 (n := 12) (by decide) (by decide)
 replace e2 : m37 c1 12 = some (bb, c2) := e2
 unfold m_s_DrawTableSet
 rw [e0, sb, e1, sb]
 dsimp only
 rw [e2, sb]
 dsimp only
 by_cases q : bb = true
 ·obtain ⟨x, c3, e3, h3⟩ := m48_ok h2
  obtain ⟨t, c4, e4, ht, h4⟩ := anyS h3
  obtain ⟨v, c5, e5, hv, _⟩ := m50_ok 1 (by omega) c4 h4
  replace e5 : m50 c4 1 = some (v, c5) := e5
  rw [if_pos q, e3, sb]
  dsimp only
  rw [e4, sb]
  dsimp only
  rw [e5, sb]
  exact ⟨_, _, _, rfl, ht, hk, hv⟩
 ·obtain ⟨t, c4, e4, ht, h4⟩ := anyS h2
  obtain ⟨v, c5, e5, hv, _⟩ := m50_ok 1 (by omega) c4 h4
  replace e5 : m50 c4 1 = some (v, c5) := e5
  rw [if_neg q, e4, sb]
  dsimp only
  rw [e5, sb]
  exact ⟨_, _, _, rfl, ht, hk, hv⟩
end Go.Am
