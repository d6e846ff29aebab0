/- The plain law, seventh part: both accept the same functions. -/
import Derived.Test.YtnehfdofoemnfaaP6
import Derived.Test.YtnehfdofoemnfaaA5
set_option linter.unusedVariables false
set_option linter.unusedSimpArgs false
namespace Go.Am
open Go Go.RowKit Go.Proofs
def allN (c : Nat → Bool) (k n : Nat) : Bool := (List.range' k (n - k)).all c
theorem allN_iff {c : Nat → Bool} {k n : Nat} : allN c k n = true ↔ ∀ i, k ≤ i → i < n → c i = true := by
 unfold allN
 rw [List.all_eq_true]
 constructor
 ·intro h i h1 h2
  exact h i (List.mem_range'_1.2 ⟨h1, by omega⟩)
 ·intro h i hi
  have := List.mem_range'_1.1 hi
  exact h i this.1 (by omega)
theorem allN_end {c : Nat → Bool} {n : Nat} : allN c n n = true := by unfold allN; simp
theorem allN_step {c : Nat → Bool} {k n : Nat} (h : k < n) : allN c k n = (c k && allN c (k + 1) n) := by
 unfold allN
 rw [show n - k = (n - (k + 1)) + 1 by omega, List.range'_succ, List.all_cons]
theorem loop_all {σ : Type} {L : σ → Int → Option (Unit ⊕ Bool)} (c : Nat → Bool) (n : Nat) (I : σ → Nat → Prop)
  (hs : ∀ s k, k < n → I s k → (c k = true → ∃ s', I s' (k + 1) ∧ L s (k : Int) = L s' ((k + 1 : Nat) : Int)) ∧ (c k = false → L s (k : Int) = some (.inr false)))
  (he : ∀ s, I s n → L s (n : Int) = some (.inl ())) : ∀ (f k : Nat) (s : σ), n ≤ k + f → k ≤ n → I s k → L s (k : Int) = some (if allN c k n = true then .inl () else .inr false)
 | f, k, s, hf, hk, hi => by
  by_cases hc : k < n
  ·obtain ⟨g, rfl⟩ : ∃ g, f = g + 1 := ⟨f - 1, by omega⟩
   obtain ⟨h1, h2⟩ := hs s k hc hi
   rw [allN_step hc]
   cases hck : c k
   ·rw [h2 hck, Bool.false_and, if_neg (by simp)]
   ·obtain ⟨s', q1, q2⟩ := h1 hck
    rw [q2, Bool.true_and]
    exact loop_all c n I hs he g (k + 1) s' (by omega) (by omega) q1
  ·have : k = n := by omega
   subst this
   rw [he s hi, if_pos allN_end]
theorem loop_all0 {L : Int → Option (Unit ⊕ Bool)} (c : Nat → Bool) (n : Nat)
  (hs : ∀ k, k < n → (c k = true → L (k : Int) = L ((k + 1 : Nat) : Int)) ∧ (c k = false → L (k : Int) = some (.inr false)))
  (he : L (n : Int) = some (.inl ())) : L 0 = some (if allN c 0 n = true then .inl () else .inr false) :=
 loop_all (σ := Unit) (L := fun _ => L) c n (fun _ _ => True) (fun s k hk _ => ⟨fun h => ⟨(), trivial, (hs k hk).1 h⟩, (hs k hk).2⟩) (fun _ _ => he) n 0 () (by omega) (Nat.zero_le _) trivial
theorem mgd_mput {κ β : Type} [DecidableEq κ] (z v : β) (k k' : κ) : ∀ l : List (κ × β), mgd (mput l k v) k' z = if k' = k then v else mgd l k' z
 | [] => by
  unfold mgd mput mfind mfind
  by_cases h : k' = k
  ·subst h; simp
  ·simp [h, mfind]
 | (a, b) :: r => by
  have ih := mgd_mput z v k k' r
  unfold mgd at ih ⊢
  unfold mput
  by_cases h : k = a
  ·subst h
   rw [if_pos rfl]
   by_cases h2 : k' = k
   ·subst h2; simp [mfind]
   ·simp [mfind, h2]
  ·rw [if_neg h]
   by_cases h2 : k' = a
   ·subst h2
    rw [if_neg (fun e => h e.symm)]
    simp [mfind]
   ·simp only [mfind, if_neg h2]
    exact ih
def gS (l : List Str) (i : Nat) : Str := l.getD i []
theorem idx_gS {l : List Str} {i : Nat} (h : i < l.length) : idx l (i : Int) = some (gS l i) := by
 rw [idx_nat h, gS, List.getD_eq_getElem?_getD, List.getElem?_eq_getElem h]; rfl
def gP (l : List TParam) (i : Nat) : TParam := l.getD i default
theorem idx_gP {l : List TParam} {i : Nat} (h : i < l.length) : idx l (i : Int) = some (gP l i) := by
 rw [idx_nat h, gP, List.getD_eq_getElem?_getD, List.getElem?_eq_getElem h]; rfl
def gC (l : List TIns) (i : Nat) : TIns := l.getD i default
theorem idx_gC {l : List TIns} {i : Nat} (h : i < l.length) : idx l (i : Int) = some (gC l i) := by
 rw [idx_nat h, gC, List.getD_eq_getElem?_getD, List.getElem?_eq_getElem h]; rfl
theorem gC_at {l : List TIns} {i : Nat} (h : i < l.length) : gC l i = l[i] := by
 rw [gC, List.getD_eq_getElem?_getD, List.getElem?_eq_getElem h]; rfl
def good (s : Str) : Bool := (m_i_goodName s).getD false
theorem iGood (s : Str) : m_i_goodName s = some (good s) := by obtain ⟨v, h, _⟩ := good_eq s; rw [good, h]; rfl
theorem sGood (s : Str) : m_s_l15Name s = some (good s) := by obtain ⟨v, h, h2⟩ := good_eq s; rw [good, h, h2]; rfl
def this4 : Str := [116, 104, 105, 115]
def seenB (l : List Str) (k : Nat) : Bool := (List.range k).any fun j => decide (gS l j = gS l k)
theorem seenB_iff {l : List Str} {k : Nat} : seenB l k = true ↔ ∃ j, j < k ∧ gS l j = gS l k := by
 unfold seenB
 rw [List.any_eq_true]
 constructor
 ·rintro ⟨j, h1, h2⟩; exact ⟨j, by simpa using h1, by simpa using h2⟩
 ·rintro ⟨j, h1, h2⟩; exact ⟨j, by simpa using h1, by simpa using h2⟩
def slotC (l : List Str) (k : Nat) : Bool := !seenB l k && good (gS l k) && !decide (gS l k = this4)
theorem iSlots (a0 : TFunc) (hn : a0.fSlots.length ≤ 2000000) : m_i_IsFunc_L2 a0 [] 0 = some (if allN (slotC a0.fSlots) 0 a0.fSlots.length = true then .inl () else .inr false) := by
 refine loop_all (L := fun l y => m_i_IsFunc_L2 a0 l y) (slotC a0.fSlots) a0.fSlots.length (fun l k => ∀ x, mgd l x false = true ↔ ∃ j, j < k ∧ gS a0.fSlots j = x) (fun l k hk hi => ?_) (fun l hi => ?_) a0.fSlots.length 0 [] (by omega) (Nat.zero_le _) (fun x => ⟨fun h => by simp [mgd, mfind] at h, fun ⟨j, h, _⟩ => absurd h (Nat.not_lt_zero _)⟩)
 ·have e : mgd l (gS a0.fSlots k) false = seenB a0.fSlots k := by
   rw [Bool.eq_iff_iff, hi, seenB_iff]
  have : m_i_IsFunc_L2 a0 l (k : Int) = if seenB a0.fSlots k = true then some (.inr false) else if good (gS a0.fSlots k) = true then (if gS a0.fSlots k = this4 then some (.inr false) else m_i_IsFunc_L2 a0 (mput l (gS a0.fSlots k) true) ((k + 1 : Nat) : Int)) else some (.inr false) := by
   rw [m_i_IsFunc_L2, if_pos (by omega), idx_gS hk, sb, e, iGood, sb, w_succ (by omega)]; rfl
  simp only [this]
  unfold slotC
  refine ⟨fun h => ?_, fun h => ?_⟩
  ·simp only [Bool.and_eq_true, Bool.not_eq_true', decide_eq_false_iff_not] at h
   obtain ⟨⟨h1, h2⟩, h3⟩ := h
   refine ⟨mput l (gS a0.fSlots k) true, fun x => ?_, by rw [if_neg (by rw [h1]; simp), if_pos h2, if_neg h3]⟩
   rw [mgd_mput]
   by_cases hx : x = gS a0.fSlots k
   ·rw [if_pos hx]; exact ⟨fun _ => ⟨k, by omega, hx.symm⟩, fun _ => rfl⟩
   ·rw [if_neg hx, hi]
    constructor
    ·rintro ⟨j, q1, q2⟩; exact ⟨j, by omega, q2⟩
    ·rintro ⟨j, q1, q2⟩
     rcases Nat.lt_succ_iff_lt_or_eq.1 q1 with q | rfl
     ·exact ⟨j, q, q2⟩
     ·exact absurd q2.symm hx
  ·by_cases h1 : seenB a0.fSlots k = true
   ·rw [if_pos h1]
   ·rw [if_neg h1]
    by_cases h2 : good (gS a0.fSlots k) = true
    ·rw [if_pos h2]
     by_cases h3 : gS a0.fSlots k = this4
     ·rw [if_pos h3]
     ·simp [h1, h2, h3] at h
    ·rw [if_neg h2]
 ·show m_i_IsFunc_L2 a0 l _ = _
  rw [m_i_IsFunc_L2, if_neg (by omega)]
theorem iParams (a0 : TFunc) (l : List TParam) (hn : l.length ≤ a0.fSlots.length) (hs : a0.fSlots.length ≤ 2000000) :
  m_i_IsFunc_L4 a0 l 0 = some (if allN (fun k => decide (gS a0.fSlots k = (gP l k).fName)) 0 l.length = true then .inl () else .inr false) := by
 refine loop_all0 (L := m_i_IsFunc_L4 a0 l) _ _ (fun k hk => ?_) (by rw [m_i_IsFunc_L4, if_neg (by omega)])
 rw [m_i_IsFunc_L4, if_pos (by omega), idx_gP hk, sb, idx_gS (by omega), sb, w_succ (by omega)]
 refine ⟨fun h => by rw [if_pos (by simpa using h)], fun h => by rw [if_neg (by simpa using h)]⟩
def yldC (a0 : TFunc) (k : Nat) : Bool := !decide ((gC a0.fCode k).fOp = 54) || a0.fGen
theorem iYield (a0 : TFunc) (hn : a0.fCode.length ≤ 2000000) : m_i_IsFunc_L6 a0 0 = some (if allN (yldC a0) 0 a0.fCode.length = true then .inl () else .inr false) := by
 refine loop_all0 (L := m_i_IsFunc_L6 a0) _ _ (fun k hk => ?_) (by rw [m_i_IsFunc_L6, if_neg (by omega)])
 rw [m_i_IsFunc_L6, if_pos (by omega), idx_gC hk, sb, w_succ (by omega)]
 unfold yldC
 by_cases h1 : (gC a0.fCode k).fOp = 54
 ·rw [if_pos h1]
  cases hg : a0.fGen <;> simp [h1, hg]
 ·rw [if_neg h1]; simp [h1]
theorem sYield (a0 : TFunc) (hn : a0.fCode.length ≤ 2000000) : m_s_IsFunc_L2 a0 0 = some (if allN (yldC a0) 0 a0.fCode.length = true then .inl () else .inr false) := by
 refine loop_all0 (L := m_s_IsFunc_L2 a0) _ _ (fun k hk => ?_) (by rw [m_s_IsFunc_L2, if_neg (by omega)])
 rw [m_s_IsFunc_L2, if_pos (by omega), idx_gC hk, sb, w_succ (by omega)]
 unfold yldC
 by_cases h1 : (gC a0.fCode k).fOp = 54
 ·rw [if_pos h1]
  cases hg : a0.fGen <;> simp [h1, hg]
 ·rw [if_neg h1]; simp [h1]
theorem slotOf_go (a0 : TFunc) (x : Str) (hn : a0.fSlots.length ≤ 2000000) : ∀ (f k : Nat), a0.fSlots.length ≤ k + f → k ≤ a0.fSlots.length → ∃ o, m_s_SlotOf_L2 a0 x (k : Int) = some o ∧
  ((∃ j : Nat, k ≤ j ∧ j < a0.fSlots.length ∧ gS a0.fSlots j = x ∧ (∀ m, k ≤ m → m < j → gS a0.fSlots m ≠ x) ∧ o = .inr (j : Int)) ∨ ((∀ j, k ≤ j → j < a0.fSlots.length → gS a0.fSlots j ≠ x) ∧ o = .inl ()))
 | f, k, hf, hk => by
  rw [m_s_SlotOf_L2]
  by_cases hc : k < a0.fSlots.length
  ·rw [if_pos (by omega), idx_gS hc, sb]
   by_cases hx : gS a0.fSlots k = x
   ·rw [if_pos hx]
    exact ⟨_, rfl, .inl ⟨k, Nat.le_refl _, hc, hx, fun m h1 h2 => absurd h2 (by omega), rfl⟩⟩
   ·obtain ⟨g, rfl⟩ : ∃ g, f = g + 1 := ⟨f - 1, by omega⟩
    rw [if_neg hx, w_succ (by omega)]
    obtain ⟨o, e, h⟩ := slotOf_go a0 x hn g (k + 1) (by omega) (by omega)
    refine ⟨o, e, ?_⟩
    rcases h with ⟨j, h1, h2, h3, h4, h5⟩ | ⟨h1, h2⟩
    ·refine .inl ⟨j, by omega, h2, h3, fun m q1 q2 => ?_, h5⟩
     rcases Nat.eq_or_lt_of_le q1 with rfl | q
     ·exact hx
     ·exact h4 m q q2
    ·refine .inr ⟨fun j q1 q2 => ?_, h2⟩
     rcases Nat.eq_or_lt_of_le q1 with rfl | q
     ·exact hx
     ·exact h1 j q q2
  ·rw [if_neg (by omega)]
   exact ⟨_, rfl, .inr ⟨fun j q1 q2 => absurd q2 (by omega), rfl⟩⟩
theorem slotOf_eq (a0 : TFunc) (hn : a0.fSlots.length ≤ 2000000) {k : Nat} (hk : k < a0.fSlots.length) : ∃ v, m_s_SlotOf a0 (gS a0.fSlots k) = some v ∧ (v = (k : Int) ↔ seenB a0.fSlots k = false) := by
 unfold m_s_SlotOf
 obtain ⟨o, e, h⟩ := slotOf_go a0 (gS a0.fSlots k) hn a0.fSlots.length 0 (by omega) (by omega)
 rw [show ((0 : Nat) : Int) = 0 from rfl] at e
 rw [e, sb]
 rcases h with ⟨j, h1, h2, h3, h4, rfl⟩ | ⟨h1, rfl⟩
 ·refine ⟨_, rfl, ?_⟩
  have hjk : j ≤ k := by
   rcases Nat.lt_or_ge k j with q | q
   ·exact absurd rfl (h4 k (Nat.zero_le _) q)
   ·exact q
  constructor
  ·intro h
   have : j = k := by omega
   subst this
   cases hs : seenB a0.fSlots j
   ·rfl
   ·obtain ⟨m, q1, q2⟩ := seenB_iff.1 hs
    exact absurd q2 (h4 m (Nat.zero_le _) q1)
  ·intro h
   rcases Nat.eq_or_lt_of_le hjk with q | q
   ·rw [q]
   ·rw [seenB_iff.2 ⟨j, q, h3⟩] at h; cases h
 ·exact absurd rfl (h1 k (Nat.zero_le _) hk)
end Go.Am
