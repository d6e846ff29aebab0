/- Marks of a tree are found again; a value is equal to itself; both readers agree; the law. -/
import Derived.Test.YtcipcpjmialcoaaDoorP7
import Derived.Test.YtcipcpjmialcoaaDoorS7
set_option linter.unusedVariables false
set_option linter.unusedSimpArgs false
namespace Go.Am
open Go Go.RowKit Go.Proofs
theorem mt_go : ∀ (f : Nat) (y : Int) (s : Str), 0 ≤ y → y ≤ 9223372036854775807 → y < 10 ^ f → s.length + f ≤ 1000 → ∃ r, m_l_markText_L2 y s = some r ∧ r.length ≤ s.length + f
 | 0, y, s, h0, hm, h1, h2 => by
  rw [m_l_markText_L2, if_neg (by omega)]; exact ⟨s, rfl, by omega⟩
 | f + 1, y, s, h0, hm, h1, h2 => by
  rw [m_l_markText_L2]
  by_cases h : y > 0
  ·have h3 : y.tdiv 10 = y / 10 := Int.tdiv_eq_ediv_of_nonneg h0
   rw [Int.pow_succ] at h1
   have hb : W64 (y.tdiv 10) = y / 10 := by rw [h3]; exact w64 (by omega) (by omega)
   have e : scat ([UInt8.ofNat (IntKind.u8.wrap (W64 (48 + (y.tmod 10)))).toNat] : List UInt8) s = some ([UInt8.ofNat (IntKind.u8.wrap (W64 (48 + (y.tmod 10)))).toNat] ++ s) := if_pos (by simp; omega)
   rw [if_pos h, e, sb, hb]
   obtain ⟨r, e2, h4⟩ := mt_go f (y / 10) ([UInt8.ofNat (IntKind.u8.wrap (W64 (48 + (y.tmod 10)))).toNat] ++ s) (by omega) (by omega) (by omega) (by simp; omega)
   exact ⟨r, e2, by simp at h4; omega⟩
  ·rw [if_neg h]; exact ⟨s, rfl, by omega⟩
def mtx (k : Int) : Str := (m_l_markText k).getD []
theorem mtx_eq (k : Int) (h : k ≤ 9223372036854775807) : m_l_markText k = some (mtx k) := by
 suffices ∃ s, m_l_markText k = some s by obtain ⟨s, e⟩ := this; rw [mtx, e]; rfl
 unfold m_l_markText
 by_cases hk : k ≤ 0
 ·rw [if_pos hk]; exact ⟨_, rfl⟩
 ·rw [if_neg hk]
  obtain ⟨r, e, hr⟩ := mt_go 19 k [] (by omega) h (by omega) (by simp)
  rw [e, sb]
  have : scat [109] r = some ([109] ++ r) := if_pos (by simp at hr ⊢; omega)
  rw [this]; exact ⟨_, rfl⟩
theorem wtL_getElem {l : List TEntry} {i : Nat} (h : i < l.length) : TEntry.wtL (l.drop i) = l[i].fVal.wt + TEntry.wtL (l.drop (i + 1)) := by rw [List.drop_eq_getElem_cons h, wtL_cons]
theorem mark_held : ∀ (n : Nat) (l : List TEntry), TEntry.wtL l ≤ n → ∀ k : Nat, k + 7 * TEntry.wtL l ≤ 1000000000 → ∃ (k' : Nat) (l' : List TEntry), m_l_markEntryS l (k : Int) = some ((k' : Int), l') ∧ l'.length = l.length ∧ k ≤ k' ∧ k' ≤ k + 7 * TEntry.wtL l ∧ m_l_heldEntryS l' (k : Int) = some (k' : Int)
 | n, l, h => by
  intro k hk
  have hlen := wtL_len l
  have go : ∀ m i : Nat, i ≤ l.length → l.length - i = m → ∀ (P : List TEntry) (k : Nat), P.length = i → k + 7 * TEntry.wtL (l.drop i) ≤ 1000000000 →
    ∃ (k' : Nat) (R : List TEntry), m_l_markEntryS_L2 l (P ++ l.drop i) (k : Int) (i : Int) = some ((k' : Int), P ++ R) ∧ R.length = l.length - i ∧ k ≤ k' ∧ k' ≤ k + 7 * TEntry.wtL (l.drop i) ∧ ∀ Q : List TEntry, Q.length = i → m_l_heldEntryS_L2 (Q ++ R) (k : Int) (i : Int) = some (.inl (k' : Int)) := by
   intro m
   induction m with
   | zero =>
    intro i h1 h2 P k hP hk
    have hi : i = l.length := by omega
    rw [m_l_markEntryS_L2, if_neg (by omega), hi, List.drop_length]
    refine ⟨k, [], rfl, by simp, Nat.le_refl _, by omega, fun Q hQ => ?_⟩
    rw [m_l_heldEntryS_L2, if_neg (by simp; omega)]
   | succ m ihm =>
    intro i h1 h2 P k hP hk
    have hlt : i < l.length := by omega
    have hd := wtL_getElem hlt
    have hwp := wt_pos l[i].fVal
    have hwe := l[i].fVal.wt_eq
    have hwm : TEntry.wtL (l.drop i) ≤ TEntry.wtL l := by
     have hq : ∀ (l : List TEntry) (i : Nat), TEntry.wtL (l.drop i) ≤ TEntry.wtL l := by
      intro l
      induction l with
      | nil => intro i; simp
      | cons e r ih =>
       intro i
       cases i with
       | zero => exact Nat.le_refl _
       | succ i => rw [List.drop_succ_cons, wtL_cons]; have := ih i; omega
     exact hq l i
    have w1 : W64 ((k : Int) + 1) = ((k + 1 : Nat) : Int) := w_succ (by omega)
    have w2 : W64 (((k + 1 : Nat) : Int) + 1) = ((k + 2 : Nat) : Int) := w_succ (by omega)
    have w3 : W64 (((k + 2 : Nat) : Int) + 1) = ((k + 3 : Nat) : Int) := w_succ (by omega)
    have w4 : W64 (((k + 3 : Nat) : Int) + 1) = ((k + 4 : Nat) : Int) := w_succ (by omega)
    have w5 : W64 (((k + 4 : Nat) : Int) + 1) = ((k + 5 : Nat) : Int) := w_succ (by omega)
    have w6 : W64 (((k + 5 : Nat) : Int) + 1) = ((k + 6 : Nat) : Int) := w_succ (by omega)
    have w7 : W64 (((k + 6 : Nat) : Int) + 1) = ((k + 7 : Nat) : Int) := w_succ (by omega)
    obtain ⟨k1, l1, e1, g0, g1, g2, g3⟩ := mark_held (n - 1) l[i].fVal.fItems (by omega) (k + 7) (by omega)
    have hx : idx (P ++ l.drop i) (i : Int) = some l[i] := by
     rw [idx_nat (by rw [List.length_append, List.length_drop]; omega), List.getElem_append_right (by omega)]
     simp [hP]
    obtain ⟨en, hen⟩ : ∃ en, en = TEntry.mk (TKey.mk (((k : Int).tmod 3) == 0) ((k + 1 : Nat) : Int) (mtx ((k + 2 : Nat) : Int))) (TValue.mk ((k + 3 : Nat) : Int) ((k + 4 : Nat) : Int) (mtx ((k + 5 : Nat) : Int)) ((k + 6 : Nat) : Int) l1) := ⟨_, rfl⟩
    have hset : (P ++ l.drop i).set i en = (P ++ [en]) ++ l.drop (i + 1) := by
     rw [List.set_append, if_neg (by omega), show i - P.length = 0 by omega, List.append_assoc]
     congr 1
     rw [List.drop_eq_getElem_cons hlt]; rfl
    obtain ⟨k', R, f1, f2, f3, f4, f5⟩ := ihm (i + 1) (by omega) (by omega) (P ++ [en]) k1 (by simp [hP]) (by omega)
    refine ⟨k', en :: R, ?_, by simp; omega, by omega, by omega, fun Q hQ => ?_⟩
    ·rw [m_l_markEntryS_L2, if_pos (by omega), hx, sb]
     simp only [w1, w2, w3, w4, w5, w6, w7, mtx_eq _ (show ((k + 2 : Nat) : Int) ≤ 9223372036854775807 by omega), mtx_eq _ (show ((k + 5 : Nat) : Int) ≤ 9223372036854775807 by omega), sb, e1, Int.toNat_natCast, ← hen, hset]
     rw [w_succ (by omega), f1]
     simp
    ·have hy : idx (Q ++ en :: R) (i : Int) = some en := by
      rw [idx_nat (by rw [List.length_append, List.length_cons]; omega), List.getElem_append_right (by omega)]
      simp [hQ]
     have f6 := f5 (Q ++ [en]) (by simp [hQ])
     rw [m_l_heldEntryS_L2, if_pos (by simp; omega)]
     simp only [hy, sb, w1, w2, w3, w4, w5, w6, w7, mtx_eq _ (show ((k + 2 : Nat) : Int) ≤ 9223372036854775807 by omega), mtx_eq _ (show ((k + 5 : Nat) : Int) ≤ 9223372036854775807 by omega)]
     rw [hen] at f6 ⊢
     simp only [TEntry.fKey_mk, TEntry.fVal_mk, TValue.fKind_mk, TValue.fNum_mk, TValue.fStr_mk, TValue.fNext_mk, TValue.fItems_mk, if_true, g3, sb]
     rw [if_neg (by omega), w_succ (by omega)]
     simpa using f6
  obtain ⟨k', R, e1, e2, e3, e4, e5⟩ := go l.length 0 (by omega) (by omega) [] k rfl (by rw [List.drop_zero]; exact hk)
  rw [List.drop_zero] at e1 e4
  replace e1 : m_l_markEntryS_L2 l l (k : Int) 0 = some ((k' : Int), R) := e1
  replace e5 : m_l_heldEntryS_L2 R (k : Int) 0 = some (.inl (k' : Int)) := e5 [] rfl
  refine ⟨k', R, ?_, by omega, e3, e4, ?_⟩
  ·rw [m_l_markEntryS, e1, sb]
  ·rw [m_l_heldEntryS, e5, sb]
termination_by n l => TEntry.wtL l
decreasing_by
 have hwe := l[i].fVal.wt_eq
 have hm := wtL_mem l _ (List.getElem_mem hlt)
 omega
theorem eqk_refl (k : TKey) : m_l_eqKey k k = some true := by unfold m_l_eqKey; rw [if_pos rfl, if_pos rfl, if_pos rfl]
theorem eqv_refl : ∀ (n : Nat), n ≤ 2000000 → ∀ v : TValue, v.wt ≤ n → m_l_eqValue v v = some true
 | 0, _, v, h => by have := wt_pos v; omega
 | n + 1, hn, v, h => by
  have hlen := wt_len (v := v)
  have go : ∀ m i : Nat, i ≤ v.fItems.length → v.fItems.length - i = m → m_l_eqEntryS_L2 v.fItems v.fItems (i : Int) = some (.inl ()) := by
   intro m
   induction m with
   | zero => intro i h1 h2; rw [m_l_eqEntryS_L2, if_neg (by omega)]
   | succ m ihm =>
    intro i h1 h2
    have hlt : i < v.fItems.length := by omega
    have hit := wt_item (List.getElem_mem hlt)
    have e1 : m_l_eqEntry v.fItems[i] v.fItems[i] = some true := by
     rw [m_l_eqEntry, eqk_refl, sb, if_pos rfl, eqv_refl n (by omega) _ (by omega), sb, if_pos rfl]
    rw [m_l_eqEntryS_L2, if_pos (by omega), idx_nat hlt, sb, sb, e1, sb, if_pos rfl, w_succ (by omega)]
    exact ihm (i + 1) (by omega) (by omega)
  have e := go v.fItems.length 0 (by omega) (by omega)
  replace e : m_l_eqEntryS_L2 v.fItems v.fItems 0 = some (.inl ()) := e
  rw [m_l_eqValue, if_pos rfl, if_pos rfl, if_pos rfl, if_pos rfl, m_l_eqEntryS, if_pos rfl, e]
  rfl
theorem ssv_eq {v : TValue} (hv : v.wt ≤ 2000000) : m22 v = some (decide (v.kw ≤ 200) && v.vok) := by
 obtain ⟨r, e3, g1, g2, g3⟩ := weigh_eq 2000000 (Nat.le_refl _) v hv 200 (by omega) (by omega)
 unfold m22
 rw [e3, sb, valid_eq 2000000 (Nat.le_refl _) v hv]
 by_cases h : v.kw ≤ 200
 ·rw [if_pos (by have := g2 (by omega); omega), sb, decide_eq_true h]; rfl
 ·rw [if_neg (by have := g3 (by omega); omega), decide_eq_false h]; rfl
theorem unser_false {s : Str} {v : TValue} (h : m_i_Unserialize s = some (v, false)) : v = .mk 0 0 [] 0 [] := by
 unfold m_i_Unserialize at h
 obtain ⟨⟨v1, v2⟩, h1, h⟩ := bd h
 dsimp only at h
 by_cases c1 : v2.fBad = true
 ·rw [if_pos c1] at h; cases h; rfl
 rw [if_neg c1] at h
 by_cases c2 : v2.fAt = (s.length : Int)
 ·rw [if_pos c2] at h
  obtain ⟨⟨v8, v9⟩, h2, h⟩ := bd h
  dsimp only at h
  by_cases c3 : v9 = true
  ·rw [if_pos c3] at h
   by_cases c4 : v8 = s
   ·rw [if_pos c4] at h; cases h
   ·rw [if_neg c4] at h; cases h; rfl
  ·rw [if_neg c3] at h; cases h; rfl
 ·rw [if_neg c2] at h; cases h; rfl
theorem unser_both {s : Str} (hs : s.length ≤ 2000000) : ∃ v b, m_i_Unserialize s = some (v, b) ∧ m_s_Unserialize s = some (v, b) ∧ v.wt ≤ 2000000 := by
 obtain ⟨v, b, e1, hw, h1⟩ := unser_tot hs
 refine ⟨v, b, e1, ?_, hw⟩
 obtain ⟨w, nx, e2, h2⟩ := read_tot (s := s) (by omega) 202 0 rfl 0 (Nat.zero_le _)
 replace e2 : m_s_l11Read s 0 0 = some (w, nx) := e2
 cases b with
 | true =>
  have h3 := h1 rfl
  rw [serialize_eq hw] at h3
  by_cases hc : ((decide (v.kw ≤ 200) && v.vok) && v.plain) = true
  ·rw [if_pos hc] at h3
   simp only [Bool.and_eq_true, decide_eq_true_eq] at hc
   obtain ⟨⟨hc1, hc2⟩, hc3⟩ := hc
   have h4 : v.ser = s := by cases h3; rfl
   have e3 := read_ok _ (Nat.le_refl _) v hw hc2 hc3 s [] 0 0 (by rw [h4]; simp) (by omega) (by omega)
   replace e3 : m_s_l11Read s 0 0 = some (v, ((0 + v.ser.length : Nat) : Int)) := e3
   unfold m_s_Unserialize
   rw [e3, sb]
   dsimp only
   rw [if_pos (by rw [h4]; simp), ssv_eq hw, sb, if_pos (by simp [hc1, hc2])]
  ·rw [if_neg hc] at h3; cases h3
 | false =>
  have hn := unser_false e1
  subst hn
  unfold m_s_Unserialize
  rw [e2, sb]
  dsimp only
  by_cases hx : nx = (s.length : Int)
  ·rw [if_pos hx]
   rcases h2 with rfl | ⟨r, g1, g2, g3, g4⟩
   ·omega
   have hr : s = w.ser := by
    have h5 : s = w.ser ++ r := by simpa using g1
    have h6 := congrArg List.length h5
    rw [List.length_append] at h6
    have h7 : r = [] := List.eq_nil_of_length_eq_zero (by omega)
    rw [h7, List.append_nil] at h5
    exact h5
   have hww : w.wt ≤ 2000000 := by rw [hr] at hs; omega
   rw [ssv_eq hww, sb]
   by_cases hc : (decide (w.kw ≤ 200) && w.vok) = true
   ·exfalso
    have hc' := hc
    simp only [Bool.and_eq_true, decide_eq_true_eq] at hc'
    have e4 := rd_ok _ (Nat.le_refl _) w hww hc'.2 g3 s [] 0 0 (by rw [List.drop_zero, List.append_nil]; exact hr) (by omega) (by omega)
    replace e4 : m_i_serialReadervalue (.mk s 0 false) 0 = some (w, .mk s ((0 + w.ser.length : Nat) : Int) false) := e4
    unfold m_i_Unserialize at e1
    rw [e4, sb] at e1
    dsimp only at e1
    rw [if_neg (by decide), if_pos (by rw [hr]; simp), serialize_eq hww, if_pos (by rw [hc, g3]; rfl), sb] at e1
    dsimp only at e1
    rw [if_pos rfl, if_pos hr.symm] at e1
    cases e1
   ·rw [if_neg hc]
  ·rw [if_neg hx]
theorem law_unser (s : Str) : m_l_FnExactUnserialize s = some true := by
 unfold m_l_FnExactUnserialize
 by_cases hl : (s.length : Int) > 1048576
 ·rw [if_pos hl]
 rw [if_neg hl]
 obtain ⟨v, b, e1, e2, hw⟩ := unser_both (s := s) (by omega)
 have hq := eqv_refl _ (Nat.le_refl _) v hw
 have hwe := v.wt_eq
 obtain ⟨k', l', f1, f2, f3, f4, f5⟩ := mark_held _ v.fItems (Nat.le_refl _) 1 (by omega)
 replace f1 : m_l_markEntryS v.fItems 1 = some ((k' : Int), l') := f1
 replace f5 : m_l_heldEntryS l' 1 = some (k' : Int) := f5
 have hm : ∀ a b c d, m_l_markValue (TValue.mk a b c d v.fItems) 1 = some ((k' : Int), TValue.mk a b c d l') := fun a b c d => by
  unfold m_l_markValue
  rw [TValue.fItems_mk, f1, sb]
  rfl
 have hh : ∀ a b c d, m_l_heldValue (TValue.mk a b c d l') 1 = some (k' : Int) := fun a b c d => by
  unfold m_l_heldValue
  rw [TValue.fItems_mk, f5, sb, if_neg (by omega)]
 rw [e2, sb]
 dsimp only
 rw [e1, sb, sb]
 dsimp only
 rw [TValue.eta, hq, sb, if_pos rfl, if_pos rfl]
 rw [show m_l_markValue v 1 = some ((k' : Int), TValue.mk v.fKind v.fNum v.fStr v.fNext l') by have := hm v.fKind v.fNum v.fStr v.fNext; rw [TValue.eta] at this; exact this, sb]
 dsimp only
 rw [sb]
 dsimp only
 simp only [TValue.fItems_mk, hh, sb, TValue.eta, hq, if_true, if_neg (show ¬ ((k' : Int) < 0) by omega)]
theorem ok_law (s : Str) : ACall Tryd.prog 3 [.str s] [] (fun res _ => res = .bool true) := (ok_l_FnExactUnserialize (law_unser s)).mono (fun _ _ h => h.1)
end Go.Am
