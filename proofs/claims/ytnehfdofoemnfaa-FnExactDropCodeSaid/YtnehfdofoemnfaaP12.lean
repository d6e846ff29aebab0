/- The plain law, twelfth part: both accept the same dropping of dead code. -/
import Derived.Test.YtnehfdofoemnfaaP11
set_option linter.unusedVariables false
set_option linter.unusedSimpArgs false
namespace Go.Am
open Go Go.RowKit Go.Proofs
def cnt (K : List Int) (x : Int) : Nat := K.countP fun k => decide (k < x)
theorem cnt_le (K : List Int) (x : Int) : cnt K x ≤ K.length := List.countP_le_length
def mv (x : TIns) (K : List Int) : TIns := if tgt x.fOp = true then TIns.mk x.fOp (cnt K x.fA : Int) x.fB x.fS x.fT else x
theorem gI_cons_drop {K : List Int} {k : Nat} (h : k < K.length) : K.drop k = gI K k :: K.drop (k + 1) := by
 rw [List.drop_eq_getElem_cons h, gI_at h]
theorem moved_go (x : TIns) (K : List Int) (hK : K.length ≤ 3000000) : ∀ (f k c : Nat), K.length ≤ k + f → k ≤ K.length → c ≤ k → m_i_moved_L4 x K (c : Int) (k : Int) = some ((c + cnt (K.drop k) x.fA : Nat) : Int)
 | f, k, c, hf, hk, hc => by
  rw [m_i_moved_L4]
  by_cases h : k < K.length
  ·obtain ⟨g, rfl⟩ : ∃ g, f = g + 1 := ⟨f - 1, by omega⟩
   rw [if_pos (by omega), idx_gI h, sb, w_succ (by omega), w_succ (by omega), gI_cons_drop h]
   unfold cnt
   rw [List.countP_cons]
   by_cases hx : gI K k < x.fA
   ·rw [if_pos hx, moved_go x K hK g (k + 1) (c + 1) (by omega) (by omega) (by omega), if_pos (by simpa using hx)]
    congr 2
    unfold cnt
    omega
   ·rw [if_neg hx, moved_go x K hK g (k + 1) c (by omega) (by omega) (by omega), if_neg (by simpa using hx)]
    rfl
  ·rw [if_neg (by omega), List.drop_eq_nil_of_le (by omega)]; rfl
theorem moved_eq (x : TIns) (K : List Int) (hK : K.length ≤ 3000000) : m_i_moved x K = some (mv x K) := by
 unfold m_i_moved mv
 rw [iTgt, sb]
 cases ht : tgt x.fOp
 ·rw [if_neg (by simp), sb, if_neg (by simp)]
 ·have e := moved_go x K hK K.length 0 0 (by omega) (by omega) (by omega)
  rw [show ((0 : Nat) : Int) = 0 from rfl, List.drop_zero, Nat.zero_add] at e
  rw [if_pos rfl, e, sb, sb, if_pos rfl]
def Mono (n : Nat) (K : List Int) : Prop := (∀ j, j < K.length → 0 ≤ gI K j ∧ gI K j < n) ∧ ∀ j, j + 1 < K.length → gI K j < gI K (j + 1)
theorem Mono.lt {n : Nat} {K : List Int} (h : Mono n K) : ∀ (i j : Nat), i < j → j < K.length → gI K i < gI K j
 | i, j + 1, hij, hj => by
  rcases Nat.lt_succ_iff_lt_or_eq.1 hij with h1 | rfl
  ·exact Int.lt_trans (Mono.lt h i j h1 (by omega)) (h.2 j hj)
  ·exact h.2 i hj
def Dead (a : TFunc) (H K : List Int) : Prop := ∀ i, i < a.fCode.length → (∃ j, j < K.length ∧ gI K j = (i : Int)) ∨ ¬ 0 ≤ gI H i ∨ (gC a.fCode i).fOp = 1
def Kept (a b : TFunc) (K : List Int) : Prop := ∀ i, i < K.length → gC b.fCode i = mv (gC a.fCode (gI K i).toNat) K
def chkC (a b : TFunc) (K : List Int) (i : Nat) : Bool := decide (0 ≤ gI K i ∧ gI K i < a.fCode.length) && (decide (i = 0) || decide (gI K (i - 1) < gI K i)) && decide (gC b.fCode i = mv (gC a.fCode (gI K i).toNat) K)
theorem iChk_go (a b : TFunc) (K : List Int) (hn : a.fCode.length ≤ 2000000) (hK : K.length ≤ 2000000) (hl : K.length = b.fCode.length) :
  ∀ (f i : Nat) (m : List (Int × Bool)), K.length ≤ i + f → i ≤ K.length → (∀ x, mgd m x false = true ↔ ∃ j, j < i ∧ gI K j = x) →
  ∃ o, m_i_CheckDrop_L2 a b K m (i : Int) = some o ∧ ((o = .inr false ∧ ∃ j, i ≤ j ∧ j < K.length ∧ chkC a b K j = false) ∨
   (∃ m', o = .inl m' ∧ (∀ x, mgd m' x false = true ↔ ∃ j, j < K.length ∧ gI K j = x) ∧ ∀ j, i ≤ j → j < K.length → chkC a b K j = true))
 | f, i, m, hf, hi, hm => by
  by_cases hc : i < K.length
  ·obtain ⟨g, rfl⟩ : ∃ g, f = g + 1 := ⟨f - 1, by omega⟩
   have more : ∀ m2 : List (Int × Bool), m2 = mput m (gI K i) true → chkC a b K i = true → ∃ o, m_i_CheckDrop_L2 a b K m2 ((i + 1 : Nat) : Int) = some o ∧ ((o = .inr false ∧ ∃ j, i ≤ j ∧ j < K.length ∧ chkC a b K j = false) ∨
     (∃ m', o = .inl m' ∧ (∀ x, mgd m' x false = true ↔ ∃ j, j < K.length ∧ gI K j = x) ∧ ∀ j, i ≤ j → j < K.length → chkC a b K j = true)) := by
    intro m2 hm2 hci
    obtain ⟨o, e, h⟩ := iChk_go a b K hn hK hl g (i + 1) m2 (by omega) (by omega) (fun x => by
     rw [hm2, mgd_mput]
     by_cases hx : x = gI K i
     ·rw [if_pos hx]; exact ⟨fun _ => ⟨i, by omega, hx.symm⟩, fun _ => rfl⟩
     ·rw [if_neg hx, hm]
      constructor
      ·rintro ⟨j, q1, q2⟩; exact ⟨j, by omega, q2⟩
      ·rintro ⟨j, q1, q2⟩
       rcases Nat.lt_succ_iff_lt_or_eq.1 q1 with q | rfl
       ·exact ⟨j, q, q2⟩
       ·exact absurd q2.symm hx)
    refine ⟨o, e, ?_⟩
    rcases h with ⟨h1, j, h2, h3, h4⟩ | ⟨m', h1, h2, h3⟩
    ·exact .inl ⟨h1, j, by omega, h3, h4⟩
    ·refine .inr ⟨m', h1, h2, fun j q1 q2 => ?_⟩
     rcases Nat.eq_or_lt_of_le q1 with rfl | q
     ·exact hci
     ·exact h3 j q q2
   have no : chkC a b K i = false → ∃ o, (some (.inr false) : Option ((List (Int × Bool)) ⊕ Bool)) = some o ∧ ((o = .inr false ∧ ∃ j, i ≤ j ∧ j < K.length ∧ chkC a b K j = false) ∨
     (∃ m', o = .inl m' ∧ (∀ x, mgd m' x false = true ↔ ∃ j, j < K.length ∧ gI K j = x) ∧ ∀ j, i ≤ j → j < K.length → chkC a b K j = true)) := fun h => ⟨_, rfl, .inl ⟨rfl, i, Nat.le_refl _, hc, h⟩⟩
   have ew : W64 ((a.fCode.length : Int) - 1) = (a.fCode.length : Int) - 1 := w64 (by omega) (by omega)
   rw [m_i_CheckDrop_L2, if_pos (by omega), idx_gI hc, sb, ew, range_eq, sb, w_succ (by omega)]
   by_cases hr : 0 ≤ gI K i ∧ gI K i < a.fCode.length
   case neg =>
    rw [if_neg (by rw [decide_eq_true_iff]; omega)]
    exact no (by unfold chkC; rw [decide_eq_false hr]; rfl)
   rw [if_pos (by rw [decide_eq_true_iff]; omega)]
   obtain ⟨k, hk⟩ : ∃ k : Nat, gI K i = (k : Int) := ⟨(gI K i).toNat, by omega⟩
   have hka : k < a.fCode.length := by omega
   have last : (i = 0 ∨ gI K (i - 1) < gI K i) → ∃ o, (idx b.fCode (i : Int) >>= fun x37 =>
    idx a.fCode (gI K i) >>= fun x39 =>
    m_i_moved x39 K >>= fun v41 =>
    (if x37 = v41 then
     m_i_CheckDrop_L2 a b K (mput m (gI K i) true) ((i + 1 : Nat) : Int)
    else
     some (.inr false))) = some o ∧ ((o = .inr false ∧ ∃ j, i ≤ j ∧ j < K.length ∧ chkC a b K j = false) ∨
     (∃ m', o = .inl m' ∧ (∀ x, mgd m' x false = true ↔ ∃ j, j < K.length ∧ gI K j = x) ∧ ∀ j, i ≤ j → j < K.length → chkC a b K j = true)) := fun hp => by
    have e2 : idx a.fCode (gI K i) = some (gC a.fCode (gI K i).toNat) := by rw [hk, idx_gC hka, Int.toNat_natCast]
    rw [idx_gC (by omega), sb, e2, sb, moved_eq _ _ (by omega), sb]
    have hq : (decide (i = 0) || decide (gI K (i - 1) < gI K i)) = true := by simpa using hp
    by_cases he : gC b.fCode i = mv (gC a.fCode (gI K i).toNat) K
    ·rw [if_pos he]
     exact more _ rfl (by unfold chkC; rw [decide_eq_true hr, hq, decide_eq_true he]; rfl)
    ·rw [if_neg he]
     exact no (by unfold chkC; rw [decide_eq_false he, Bool.and_false])
   by_cases h0 : i = 0
   ·rw [if_neg (by omega)]
    exact last (.inl h0)
   ·rw [if_pos (by omega), w_nat (x := (i : Int) - 1) (n := i - 1) (by omega) (by omega), idx_gI (by omega), sb]
    by_cases hp : gI K (i - 1) < gI K i
    ·rw [if_neg (by omega)]
     exact last (.inr hp)
    ·rw [if_pos (by omega)]
     exact no (by unfold chkC; rw [decide_eq_false hp, decide_eq_false h0]; simp)
  ·rw [m_i_CheckDrop_L2, if_neg (by omega)]
   have : i = K.length := by omega
   subst this
   exact ⟨_, rfl, .inr ⟨m, rfl, hm, fun j q1 q2 => absurd q2 (by omega)⟩⟩
theorem chk_iff {a b : TFunc} {K : List Int} : (∀ j, 0 ≤ j → j < K.length → chkC a b K j = true) ↔ Mono a.fCode.length K ∧ Kept a b K := by
 constructor
 ·intro h
  have h2 : ∀ j, j < K.length → (0 ≤ gI K j ∧ gI K j < a.fCode.length) ∧ (j = 0 ∨ gI K (j - 1) < gI K j) ∧ gC b.fCode j = mv (gC a.fCode (gI K j).toNat) K := fun j hj => by
   have := h j (Nat.zero_le _) hj
   unfold chkC at this
   simp only [Bool.and_eq_true, Bool.or_eq_true, decide_eq_true_eq] at this
   exact ⟨this.1.1, this.1.2, this.2⟩
  exact ⟨⟨fun j hj => (h2 j hj).1, fun j hj => by have := (h2 (j + 1) hj).2.1; rcases this with q | q; omega; simpa using q⟩, fun j hj => (h2 j hj).2.2⟩
 ·rintro ⟨⟨h1, h2⟩, h3⟩ j _ hj
  unfold chkC
  simp only [Bool.and_eq_true, Bool.or_eq_true, decide_eq_true_eq]
  refine ⟨⟨h1 j hj, ?_⟩, h3 j hj⟩
  rcases Nat.eq_zero_or_pos j with q | q
  ·exact .inl q
  ·right
   have := h2 (j - 1) (by omega)
   rwa [show j - 1 + 1 = j by omega] at this
theorem iDead (a : TFunc) (H K : List Int) (m : List (Int × Bool)) (hn : a.fCode.length ≤ 2000000) (hH : H.length = a.fCode.length) (hm : ∀ x, mgd m x false = true ↔ ∃ j, j < K.length ∧ gI K j = x) :
  ∃ v : Bool, m_i_CheckDrop_L4 a m H 0 = some (if v = true then .inl () else .inr false) ∧ (v = true ↔ Dead a H K) := by
 refine ⟨_, loop_all0 (L := m_i_CheckDrop_L4 a m H) (fun i => mgd m (i : Int) false || !decide (0 ≤ gI H i) || decide ((gC a.fCode i).fOp = 1)) a.fCode.length (fun k hk => ?_) (by rw [m_i_CheckDrop_L4, if_neg (by omega)]), ?_⟩
 ·rw [m_i_CheckDrop_L4, if_pos (by omega), idx_gC hk, sb, w_succ (by omega)]
  by_cases h1 : mgd m (k : Int) false = true
  ·rw [if_pos h1, h1]; exact ⟨fun _ => rfl, fun h => by simp at h⟩
  ·rw [if_neg h1, idx_gI (by omega), sb]
   have h1' : mgd m (k : Int) false = false := by simpa using h1
   rw [h1', Bool.false_or]
   by_cases h2 : 0 ≤ gI H k
   ·rw [if_pos (show gI H k ≥ 0 from h2), decide_eq_true h2]
    by_cases h3 : (gC a.fCode k).fOp = 1
    ·rw [if_pos h3, decide_eq_true h3]; exact ⟨fun _ => rfl, fun h => by simp at h⟩
    ·rw [if_neg h3, decide_eq_false h3]; exact ⟨fun h => by simp at h, fun _ => rfl⟩
   ·rw [if_neg (show ¬ gI H k ≥ 0 from h2), decide_eq_false h2]; exact ⟨fun _ => rfl, fun h => by simp at h⟩
 ·rw [allN_iff]
  unfold Dead
  constructor
  ·intro h i hi
   have := h i (Nat.zero_le _) hi
   simp only [Bool.or_eq_true, Bool.not_eq_true', decide_eq_false_iff_not, decide_eq_true_eq, hm] at this
   rcases this with (q | q) | q
   ·exact .inl q
   ·exact .inr (.inl q)
   ·exact .inr (.inr q)
  ·intro h i _ hi
   simp only [Bool.or_eq_true, Bool.not_eq_true', decide_eq_false_iff_not, decide_eq_true_eq, hm]
   rcases h i hi with q | q | q
   ·exact .inl (.inl q)
   ·exact .inl (.inr q)
   ·exact .inr q
end Go.Am
