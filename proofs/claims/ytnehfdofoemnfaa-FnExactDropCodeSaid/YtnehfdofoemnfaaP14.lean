/- The plain law, fourteenth part: marks are found again. -/
import Derived.Test.YtnehfdofoemnfaaP13
import Derived.Test.YtnehfdofoemnfaaA9
set_option linter.unusedVariables false
set_option linter.unusedSimpArgs false
namespace Go.Am
open Go Go.RowKit Go.Proofs
theorem mt_go : ∀ (f : Nat) (y : Int) (s : Str), 0 ≤ y → y ≤ 9223372036854775807 → y < 10 ^ f → s.length + f ≤ 1000 → ∃ r, m_l_markText_L2 y s = some r ∧ r.length ≤ s.length + f
 | 0, y, s, h0, hm, h1, h2 => by
  rw [m_l_markText_L2, if_neg (by omega)]; exact ⟨s, rfl, by omega⟩
 | f + 1, y, s, h0, hm, h1, h2 => by
  rw [m_l_markText_L2]
  by_cases h : y > 0
  ·have h3 : y.tdiv 10 = y / 10 := Int.tdiv_eq_ediv_of_nonneg h0
   rw [Int.pow_succ] at h1
   have hb : W64 (y.tdiv 10) = y / 10 := by rw [h3]; exact w64 (by omega) (by omega)
   have e : scat ([UInt8.ofNat (IntKind.u8.wrap (W64 (48 + (y.tmod 10)))).toNat] : List UInt8) s = some ([UInt8.ofNat (IntKind.u8.wrap (W64 (48 + (y.tmod 10)))).toNat] ++ s) := if_pos (by simp; omega)
   rw [if_pos h, e, sb, hb]
   obtain ⟨r, e2, h4⟩ := mt_go f (y / 10) ([UInt8.ofNat (IntKind.u8.wrap (W64 (48 + (y.tmod 10)))).toNat] ++ s) (by omega) (by omega) (by omega) (by simp; omega)
   exact ⟨r, e2, by simp at h4; omega⟩
  ·rw [if_neg h]; exact ⟨s, rfl, by omega⟩
def mtx (k : Int) : Str := (m_l_markText k).getD []
theorem mtx_eq (k : Int) (h : k ≤ 9223372036854775807) : m_l_markText k = some (mtx k) := by
 suffices ∃ s, m_l_markText k = some s by obtain ⟨s, e⟩ := this; rw [mtx, e]; rfl
 unfold m_l_markText
 by_cases hk : k ≤ 0
 ·rw [if_pos hk]; exact ⟨_, rfl⟩
 ·rw [if_neg hk]
  obtain ⟨r, e, hr⟩ := mt_go 19 k [] (by omega) h (by omega) (by simp)
  rw [e, sb]
  have : scat [109] r = some ([109] ++ r) := if_pos (by simp at hr ⊢; omega)
  rw [this]; exact ⟨_, rfl⟩
def mrk {α : Type} (c : Int) (f : Int → α) (n : Nat) (y : Int) : List α := (List.range n).map fun i : Nat => f (y + c * (i : Int))
theorem mrk_len {α : Type} {c : Int} {f : Int → α} {n : Nat} {y : Int} : (mrk c f n y).length = n := by simp [mrk]
theorem mrk_at {α : Type} {c : Int} {f : Int → α} {n : Nat} {y : Int} {i : Nat} (h : i < n) : (mrk c f n y)[i]? = some (f (y + c * i)) := by simp [mrk, h]
theorem mrk_all {α : Type} (c : Nat) (f : Int → α) (l : List α) (L : List α → Int → Int → Option (Int × List α)) (y0 B : Int) (hB : y0 + c * l.length ≤ B)
  (hs : ∀ (m : List α) (y : Int) (i : Nat), i < m.length → m.length = l.length → 0 ≤ y → y ≤ B → L m y (i : Int) = L (m.set i (f y)) (y + c) ((i + 1 : Nat) : Int)) (he : ∀ (m : List α) (y : Int), m.length = l.length → L m y (l.length : Int) = some (y, m)) (h0 : 0 ≤ y0) :
  L l y0 0 = some (y0 + c * l.length, mrk c f l.length y0) := by
 suffices h : ∀ (g i : Nat) (m : List α), l.length ≤ i + g → i ≤ l.length → m.length = l.length → (∀ j, j < i → m[j]? = (mrk c f l.length y0)[j]?) → L m (y0 + c * i) (i : Int) = some (y0 + c * l.length, mrk c f l.length y0) by
  have := h l.length 0 l (by omega) (by omega) rfl (fun j hj => absurd hj (by omega))
  simpa using this
 intro g
 induction g with
 | zero =>
  intro i m hg hi hl hj
  have : i = l.length := by omega
  subst this
  rw [he _ _ hl]
  congr 2
  refine List.ext_getElem? fun j => ?_
  by_cases h : j < l.length
  ·exact hj j h
  ·rw [List.getElem?_eq_none (by omega), List.getElem?_eq_none (by rw [mrk_len]; omega)]
 | succ g ih =>
  intro i m hg hi hl hj
  by_cases hc : i < l.length
  ·have hci : (c : Int) * i ≤ c * l.length := Int.mul_le_mul_of_nonneg_left (by omega) (by omega)
   have hci0 : (0 : Int) ≤ c * i := Int.mul_nonneg (by omega) (by omega)
   rw [hs m _ i (by omega) hl (by omega) (by omega)]
   have := ih (i + 1) (m.set i (f (y0 + c * i))) (by omega) (by omega) (by simpa using hl) (fun j hj2 => by
    rw [List.getElem?_set]
    by_cases h : i = j
    ·subst h; rw [if_pos rfl, if_pos (by omega), mrk_at hc]
    ·rw [if_neg h]; exact hj j (by omega))
   rw [← this, show ((i + 1 : Nat) : Int) = (i : Int) + 1 from rfl, Int.mul_add, Int.mul_one, Int.add_assoc]
  ·have : i = l.length := by omega
   subst this
   rw [he _ _ hl]
   congr 2
   refine List.ext_getElem? fun j => ?_
   by_cases h : j < l.length
   ·exact hj j h
   ·rw [List.getElem?_eq_none (by omega), List.getElem?_eq_none (by rw [mrk_len]; omega)]
theorem held_all {α : Type} (c : Nat) (f : Int → α) (n : Nat) (L : Int → Int → Option (Int ⊕ Int)) (y0 B : Int) (hB : y0 + c * n ≤ B)
  (hs : ∀ (y : Int) (i : Nat), i < n → y = y0 + c * i → 0 ≤ y → y ≤ B → L y (i : Int) = L (y + c) ((i + 1 : Nat) : Int)) (he : ∀ y, L y (n : Int) = some (.inl y)) (h0 : 0 ≤ y0) : L y0 0 = some (.inl (y0 + c * n)) := by
 suffices h : ∀ (g i : Nat), n ≤ i + g → i ≤ n → L (y0 + c * i) (i : Int) = some (.inl (y0 + c * n)) by
  have := h n 0 (by omega) (by omega)
  simpa using this
 intro g
 induction g with
 | zero =>
  intro i hg hi
  have : i = n := by omega
  subst this
  exact he _
 | succ g ih =>
  intro i hg hi
  by_cases hc : i < n
  ·have hci : (c : Int) * i ≤ c * n := Int.mul_le_mul_of_nonneg_left (by omega) (by omega)
   have hci0 : (0 : Int) ≤ c * i := Int.mul_nonneg (by omega) (by omega)
   rw [hs _ i hc rfl (by omega) (by omega)]
   rw [← ih (i + 1) (by omega) (by omega), show ((i + 1 : Nat) : Int) = (i : Int) + 1 from rfl, Int.mul_add, Int.mul_one, Int.add_assoc]
  ·have : i = n := by omega
   subst this
   exact he _
theorem idx_mrk {α : Type} [Inhabited α] {c : Int} {f : Int → α} {n : Nat} {y : Int} {i : Nat} (h : i < n) : idx (mrk c f n y) (i : Int) = some (f (y + c * i)) := by
 rw [idx_nat (by rw [mrk_len]; exact h)]
 have := mrk_at (c := c) (f := f) (y := y) h
 rw [List.getElem?_eq_getElem (by rw [mrk_len]; exact h)] at this
 exact this
theorem idx_set {α : Type} [Inhabited α] {l : List α} {i : Nat} {x : α} (h : i < l.length) : idx (l.set i x) (i : Int) = some x := by
 rw [idx_nat (by simpa using h)]; simp
def fP (y : Int) : TParam := ⟨mtx y, ((y + 1).tmod 3) == 0⟩
def fC (y : Int) : TIns := ⟨y, y + 1, y + 2, mtx (y + 3), mtx (y + 4)⟩
theorem wp {y : Int} {c : Int} (h0 : 0 ≤ y) (h1 : y ≤ 2000000000) (hc : 0 ≤ c) (hc2 : c ≤ 100) : W64 (y + c) = y + c := w64 (by omega) (by omega)
theorem markParamS_eq (l : List TParam) (y : Int) (h0 : 0 ≤ y) (h1 : y + 2 * l.length ≤ 1000000000) : m_l_markParamS l y = some (y + 2 * l.length, mrk 2 fP l.length y) := by
 unfold m_l_markParamS
 have := mrk_all 2 fP l m_l_markParamS_L2 y 1000000000 h1 (fun m y i hi hl h0 h1 => by
  rw [m_l_markParamS_L2, if_pos (by omega), mtx_eq _ (by omega), sb, idx_nat hi, sb, Int.toNat_natCast, idx_set hi, sb, List.set_set, w_succ (by omega), wp h0 (by omega) (by omega) (by omega), wp (by omega) (by omega) (by omega) (by omega)]
  congr 1; omega) (fun m y hl => by rw [m_l_markParamS_L2, if_neg (by omega)]) h0
 rw [this]; rfl
theorem markStringS_eq (l : List Str) (y : Int) (h0 : 0 ≤ y) (h1 : y + 1 * l.length ≤ 1000000000) : m_l_markStringS l y = some (y + 1 * l.length, mrk 1 mtx l.length y) := by
 unfold m_l_markStringS
 have := mrk_all 1 mtx l m_l_markStringS_L2 y 1000000000 h1 (fun m y i hi hl h0 h1 => by
  rw [m_l_markStringS_L2, if_pos (by omega), mtx_eq _ (by omega), sb, idx_nat hi, sb, Int.toNat_natCast, w_succ (by omega), wp h0 (by omega) (by omega) (by omega)]
  congr 1) (fun m y hl => by rw [m_l_markStringS_L2, if_neg (by omega)]) h0
 rw [this]; rfl
theorem markIntS_eq (l : List Int) (y : Int) (h0 : 0 ≤ y) (h1 : y + 1 * l.length ≤ 1000000000) : m_l_markIntS l y = some (y + 1 * l.length, mrk 1 id l.length y) := by
 unfold m_l_markIntS
 have := mrk_all 1 id l m_l_markIntS_L2 y 1000000000 h1 (fun m y i hi hl h0 h1 => by
  rw [m_l_markIntS_L2, if_pos (by omega), idx_nat hi, sb, Int.toNat_natCast, w_succ (by omega), wp h0 (by omega) (by omega) (by omega)]
  congr 1) (fun m y hl => by rw [m_l_markIntS_L2, if_neg (by omega)]) h0
 rw [this]; rfl
theorem markInsS_eq (l : List TIns) (y : Int) (h0 : 0 ≤ y) (h1 : y + 5 * l.length ≤ 1000000000) : m_l_markInsS l y = some (y + 5 * l.length, mrk 5 fC l.length y) := by
 unfold m_l_markInsS
 have := mrk_all 5 fC l m_l_markInsS_L2 y 1000000000 h1 (fun m y i hi hl h0 h1 => by
  have e2 : W64 (W64 (y + 1) + 1) = y + 2 := by rw [wp h0 (by omega) (by omega) (by omega), W64, w64 (by omega) (by omega)]; omega
  have e3 : W64 (y + 2 + 1) = y + 3 := by rw [W64, w64 (by omega) (by omega)]; omega
  have e4 : W64 (y + 3 + 1) = y + 4 := by rw [W64, w64 (by omega) (by omega)]; omega
  have e5 : W64 (y + 4 + 1) = y + 5 := by rw [W64, w64 (by omega) (by omega)]; omega
  rw [m_l_markInsS_L2, if_pos (by omega), idx_nat hi, sb, Int.toNat_natCast, idx_set hi, sb, List.set_set, idx_set hi, sb, List.set_set, e2, e3, e4, e5, mtx_eq _ (by omega), sb, idx_set hi, sb, List.set_set, mtx_eq _ (by omega), sb, idx_set hi, sb, List.set_set, w_succ (by omega), wp h0 (by omega) (by omega) (by omega)]
  congr 1) (fun m y hl => by rw [m_l_markInsS_L2, if_neg (by omega)]) h0
 rw [this]; rfl
theorem heldParamS_eq (n : Nat) (y : Int) (h0 : 0 ≤ y) (h1 : y + 2 * n ≤ 1000000000) : m_l_heldParamS (mrk 2 fP n y) y = some (y + 2 * n) := by
 unfold m_l_heldParamS
 have := held_all 2 fP n (m_l_heldParamS_L2 (mrk 2 fP n y)) y 1000000000 h1 (fun z i hi e h0 h1 => by
  rw [m_l_heldParamS_L2, if_pos (by rw [mrk_len]; omega), idx_mrk hi, sb, mtx_eq _ (by omega), sb, sb, ← (show z = y + 2 * i from e), wp h0 (by omega) (by omega) (by omega), wp (by omega) (by omega) (by omega) (by omega), if_pos (show (fP z).fName = mtx z from rfl), if_pos (show (fP z).fRef = ((z + 1).tmod 3 == 0) from rfl), w_succ (by omega)]
  congr 1; omega) (fun z => by rw [m_l_heldParamS_L2, if_neg (by rw [mrk_len]; omega)]) h0
 rw [this]; rfl
theorem heldStringS_eq (n : Nat) (y : Int) (h0 : 0 ≤ y) (h1 : y + 1 * n ≤ 1000000000) : m_l_heldStringS (mrk 1 mtx n y) y = some (y + 1 * n) := by
 unfold m_l_heldStringS
 have := held_all 1 mtx n (m_l_heldStringS_L2 (mrk 1 mtx n y)) y 1000000000 h1 (fun z i hi e h0 h1 => by
  rw [m_l_heldStringS_L2, if_pos (by rw [mrk_len]; omega), idx_mrk hi, sb, mtx_eq _ (by omega), sb, ← (show z = y + 1 * i from e), wp h0 (by omega) (by omega) (by omega), if_pos rfl, w_succ (by omega)]
  rfl) (fun z => by rw [m_l_heldStringS_L2, if_neg (by rw [mrk_len]; omega)]) h0
 rw [this]; rfl
theorem heldIntS_eq (n : Nat) (y : Int) (h0 : 0 ≤ y) (h1 : y + 1 * n ≤ 1000000000) : m_l_heldIntS (mrk 1 id n y) y = some (y + 1 * n) := by
 unfold m_l_heldIntS
 have := held_all 1 id n (m_l_heldIntS_L2 (mrk 1 id n y)) y 1000000000 h1 (fun z i hi e h0 h1 => by
  rw [m_l_heldIntS_L2, if_pos (by rw [mrk_len]; omega), idx_mrk hi, sb, ← (show z = y + 1 * i from e), wp h0 (by omega) (by omega) (by omega), if_pos (show id z = z from rfl), w_succ (by omega)]
  rfl) (fun z => by rw [m_l_heldIntS_L2, if_neg (by rw [mrk_len]; omega)]) h0
 rw [this]; rfl
theorem heldInsS_eq (n : Nat) (y : Int) (h0 : 0 ≤ y) (h1 : y + 5 * n ≤ 1000000000) : m_l_heldInsS (mrk 5 fC n y) y = some (y + 5 * n) := by
 unfold m_l_heldInsS
 have := held_all 5 fC n (m_l_heldInsS_L2 (mrk 5 fC n y)) y 1000000000 h1 (fun z i hi e h0 h1 => by
  have e2 : W64 (W64 (z + 1) + 1) = z + 2 := by rw [wp h0 (by omega) (by omega) (by omega), W64, w64 (by omega) (by omega)]; omega
  have e3 : W64 (z + 2 + 1) = z + 3 := by rw [W64, w64 (by omega) (by omega)]; omega
  have e4 : W64 (z + 3 + 1) = z + 4 := by rw [W64, w64 (by omega) (by omega)]; omega
  have e5 : W64 (z + 4 + 1) = z + 5 := by rw [W64, w64 (by omega) (by omega)]; omega
  rw [m_l_heldInsS_L2, if_pos (by rw [mrk_len]; omega), idx_mrk hi, sb, ← (show z = y + 5 * i from e), e2, e3, e4, e5, wp h0 (by omega) (by omega) (by omega)]
  simp only [sb, mtx_eq _ (show z + 3 ≤ 9223372036854775807 by omega), mtx_eq _ (show z + 4 ≤ 9223372036854775807 by omega), w_succ (show i < 9223372036854775807 by omega)]
  rw [if_pos (show (fC z).fOp = z from rfl), if_pos (show (fC z).fA = z + 1 from rfl), if_pos (show (fC z).fB = z + 2 from rfl), if_pos (show (fC z).fS = mtx (z + 3) from rfl), if_pos (show (fC z).fT = mtx (z + 4) from rfl)]
  rfl) (fun z => by rw [m_l_heldInsS_L2, if_neg (by rw [mrk_len]; omega)]) h0
 rw [this]; rfl
def mkF (a : TFunc) (y : Int) : TFunc :=
 ⟨a.fName, mrk 2 fP a.fParams.length y, mrk 2 fP a.fUses.length (y + 2 * a.fParams.length), mrk 1 mtx a.fSlots.length (y + 2 * a.fParams.length + 2 * a.fUses.length), a.fGen, mrk 5 fC a.fCode.length (y + 2 * a.fParams.length + 2 * a.fUses.length + 1 * a.fSlots.length)⟩
def mkN (a : TFunc) (y : Int) : Int := y + 2 * a.fParams.length + 2 * a.fUses.length + 1 * a.fSlots.length + 5 * a.fCode.length
theorem markFunc_eq (a : TFunc) (ha : Fits a) (y : Int) (h0 : 0 ≤ y) (h1 : y ≤ 100000000) : m_l_markFunc a y = some (mkN a y, mkF a y) := by
 have q1 := ha.params
 have q2 := ha.uses
 have q3 := ha.slots
 have q4 := ha.code
 unfold m_l_markFunc
 rw [markParamS_eq _ _ h0 (by omega), sb]
 dsimp only
 rw [markParamS_eq _ _ (by omega) (by omega), sb]
 dsimp only
 rw [markStringS_eq _ _ (by omega) (by omega), sb]
 dsimp only
 rw [markInsS_eq _ _ (by omega) (by omega), sb]
 rfl
theorem heldFunc_eq (a : TFunc) (ha : Fits a) (y : Int) (h0 : 0 ≤ y) (h1 : y ≤ 100000000) : m_l_heldFunc (mkF a y) y = some (mkN a y) := by
 have q1 := ha.params
 have q2 := ha.uses
 have q3 := ha.slots
 have q4 := ha.code
 unfold m_l_heldFunc mkF
 dsimp only
 rw [heldParamS_eq _ _ h0 (by omega), sb, if_neg (by omega), heldParamS_eq _ _ (by omega) (by omega), sb, if_neg (by omega), heldStringS_eq _ _ (by omega) (by omega), sb, if_neg (by omega), heldInsS_eq _ _ (by omega) (by omega), sb, if_neg (by omega)]
 rfl
end Go.Am
