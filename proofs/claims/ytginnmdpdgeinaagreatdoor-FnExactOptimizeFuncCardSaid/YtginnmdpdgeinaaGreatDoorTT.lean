/- The plain law: numerals. -/
import Derived.Test.YtginnmdpdgeinaaGreatDoorPP
import Derived.Test.YtginnmdpdgeinaaGreatDoorB1
import Derived.Lib.AtoiTie
import Derived.Test.YtginnmdpdgeinaaGreatDoorB2
import Derived.Test.YtginnmdpdgeinaaGreatDoorB4
import Derived.Test.YtginnmdpdgeinaaGreatDoorC1
import Derived.Test.YtginnmdpdgeinaaGreatDoorC2
import Derived.Test.YtginnmdpdgeinaaGreatDoorC3
set_option linter.unusedVariables false
set_option linter.unusedSimpArgs false
namespace Go.Am
open Go Go.RowKit Go.Proofs
theorem nDig_le : ∀ (k u : Nat), u < 10 ^ (k + 1) → Lib.nDigits u ≤ k + 1
 | 0, u, h => by rw [Lib.nDigits_small (by simpa using h)]; exact Nat.le_refl _
 | k + 1, u, h => by
  by_cases h1 : u < 10
  ·rw [Lib.nDigits_small h1]; omega
  ·rw [Lib.nDigits_big h1]
   have := nDig_le k (u / 10) (by rw [Nat.pow_succ] at h; omega)
   omega
theorem decDigits_step (u : Nat) : Lib.decDigits u = (if u / 10 = 0 then [] else Lib.decDigits (u / 10)) ++ [UInt8.ofNat (48 + u % 10)] := by
 by_cases h : u < 10
 ·rw [if_pos (by omega), Lib.decDigits, dif_pos h, show u % 10 = u by omega]; rfl
 ·rw [if_neg (by omega)]
  conv => lhs; rw [Lib.decDigits, dif_neg h]
theorem m94_go : ∀ (k : Nat) (out : Str) (m : Int), m.natAbs < 10 ^ k → -9223372036854775808 ≤ m → m ≤ 9223372036854775807 → k + out.length ≤ 1000 →
  m94_L2 out m = some ((if m = 0 then [] else Lib.decDigits m.natAbs) ++ out)
 | 0, out, m, h, _, _, _ => by
  have : m = 0 := by simp at h; exact h
  subst this
  rw [m94_L2, if_pos rfl, if_pos rfl]; rfl
 | k + 1, out, m, h, h0, h1, ho => by
  rw [m94_L2]
  by_cases hm : m = 0
  ·rw [if_pos hm, if_pos hm]; rfl
  rw [if_neg hm, if_neg hm]
  have ab : (m.tmod 10).natAbs = m.natAbs % 10 := Int.natAbs_tmod m 10
  have ad : (m.tdiv 10).natAbs = m.natAbs / 10 := Int.natAbs_tdiv m 10
  have dv : W64 (m.tdiv 10) = m.tdiv 10 := by rw [W64, w64] <;> omega
  have fin : ∀ d : Int, d = ((m.natAbs % 10 : Nat) : Int) → UInt8.ofNat (IntKind.u8.wrap (W64 (48 + d))).toNat = UInt8.ofNat (48 + m.natAbs % 10) := fun d hd => by
   subst hd
   rw [W64, w64 (by omega) (by omega), IntKind.wrap_u8]
   congr 1
   omega
  have next : m94_L2 ([UInt8.ofNat (48 + m.natAbs % 10)] ++ out) (W64 (m.tdiv 10)) = some (Lib.decDigits m.natAbs ++ out) := by
   rw [dv, m94_go k _ _ (by rw [Nat.pow_succ] at h; omega) (by omega) (by omega) (by simp; omega), decDigits_step m.natAbs, ad, List.append_assoc]
   by_cases h : m.tdiv 10 = 0
   ·rw [if_pos h, if_pos (by omega)]
   ·rw [if_neg h, if_neg (by omega)]
  have hs : ∀ b : UInt8, scat [b] out = some ([b] ++ out) := fun b => if_pos (by simp; omega)
  by_cases hn : m.tmod 10 < 0
  ·rw [if_pos hn, hs, sb, fin _ (by rw [W64, w64] <;> omega), next]
  ·rw [if_neg hn, hs, sb, fin _ (by omega), next]
theorem m94_eq (n : Int) (h0 : -9223372036854775808 ≤ n) (h1 : n ≤ 9223372036854775807) : m94 n = some (Lib.itoa n) := by
 unfold m94
 by_cases h : n = 0
 ·subst h; rw [if_pos rfl, show Lib.itoa 0 = [48] by decide +kernel]
 rw [if_neg h, m94_go 20 [] n (by simp only [Nat.reducePow]; omega) h0 h1 (by simp), sb, if_neg h, List.append_nil]
 unfold Lib.itoa
 have hL : (Lib.decDigits n.natAbs).length ≤ 20 := by rw [Lib.decDigits_length]; exact nDig_le 19 _ (by simp only [Nat.reduceAdd, Nat.reducePow]; omega)
 by_cases hn : n < 0
 ·rw [if_pos hn, if_pos hn, scat, if_pos (by simp; omega)]; rfl
 ·rw [if_neg hn, if_neg hn, show n.natAbs = n.toNat by omega]
end Go.Am
set_option linter.unusedVariables false
set_option linter.unusedSimpArgs false
namespace Go.Am
open Go Go.RowKit Go.Proofs
def dv (b : UInt8) : Int := (b.toNat : Int) - 48
theorem dv_bd {b : UInt8} (h : isDig b = true) : 0 ≤ dv b ∧ dv b ≤ 9 := by unfold isDig at h; unfold dv; simp at h; omega
theorem dw {b : UInt8} (h : isDig b = true) : W64 (IntKind.u8.wrap ((b.toNat : Int) - 48)) = dv b := by
 have := dv_bd h
 unfold dv at this ⊢
 rw [IntKind.wrap_u8, W64, w64 (by omega) (by omega)]
 omega
def val : Int → Str → Int
 | a, [] => a
 | a, b :: r => val (a * 10 + dv b) r
theorem val_ge : ∀ (t : Str) (a : Int), 0 ≤ a → t.all isDig = true → a ≤ val a t
 | [], a, _, _ => Int.le_refl _
 | b :: r, a, h, hd => by
  simp only [List.all_cons, Bool.and_eq_true] at hd
  have := dv_bd hd.1
  have := val_ge r (a * 10 + dv b) (by omega) hd.2
  unfold val; omega
theorem drop_cons {t : Str} {k : Nat} (h : k < t.length) : t.drop k = t.getD k 0 :: t.drop (k + 1) := by
 rw [List.drop_eq_getElem_cons h]
 simp [List.getD_eq_getElem?_getD, h]
theorem iNum_go (t : Str) (ht : t.length ≤ 10) : ∀ (f k : Nat) (y : Int), t.length ≤ k + f → k ≤ t.length → 0 ≤ y → y < 10 ^ k →
  m_i_IsNumeric_L2 t y (k : Int) = some (if (t.drop k).all isDig = true then .inl (val y (t.drop k)) else .inr false)
 | f, k, y, hf, hk, h0, h1 => by
  rw [m_i_IsNumeric_L2]
  by_cases hc : k < t.length
  ·obtain ⟨g, rfl⟩ : ∃ g, f = g + 1 := ⟨f - 1, by omega⟩
   rw [if_pos (by omega), sidx_nat hc, sb, dig_eq, sb, drop_cons hc, List.all_cons]
   cases hd : isDig (t.getD k 0)
   ·rw [if_neg (by simp), if_neg (by simp)]
   ·have hb := dv_bd hd
    have h10 : (10 : Int) ^ k ≤ 10 ^ 9 := by
     have := Nat.pow_le_pow_right (n := 10) (by omega) (show k ≤ 9 by omega)
     exact_mod_cast this
    have hy : y ≤ 1000000000 := by omega
    rw [if_pos rfl, sb, dw hd, w_succ (by omega), W64, W64, w64 (x := y * 10) (by omega) (by omega), w64 (by omega) (by omega), iNum_go t ht g (k + 1) _ (by omega) (by omega) (by omega) (by rw [Int.pow_succ]; omega), Bool.true_and]
    rfl
  ·rw [if_neg (by omega), List.drop_eq_nil_of_le (by omega)]
   rfl
def dn : Str → Nat
 | [] => 0
 | b :: r => if isDig b = true then dn r + 1 else 0
def clampV (m : Int) : Int → Str → Int
 | a, [] => a
 | a, b :: r => if isDig b = true then clampV m (min (a * 10 + dv b) m) r else a
theorem sScan_go (t : Str) (hl : t.length ≤ 1000) : ∀ (f k : Nat) (y : Int), t.length ≤ k + f → k ≤ t.length → 0 ≤ y → y ≤ 1000000001 →
  m_s_l8Scan_L2 t y (k : Int) = some (clampV 1000000001 y (t.drop k), ((k + dn (t.drop k) : Nat) : Int))
 | f, k, y, hf, hk, h0, h1 => by
  rw [m_s_l8Scan_L2]
  by_cases hc : k < t.length
  ·obtain ⟨g, rfl⟩ : ∃ g, f = g + 1 := ⟨f - 1, by omega⟩
   have hw : W64 ((t.getD k 0).toNat : Int) = ((t.getD k 0).toNat : Int) := wb _
   have hdig : decide ((48 : Int) ≤ ((t.getD k 0).toNat : Int) ∧ ((t.getD k 0).toNat : Int) ≤ 57) = isDig (t.getD k 0) := by unfold isDig; rw [Bool.eq_iff_iff]; simp; omega
   rw [if_pos (by omega), sidx_nat hc, sb, hw, l1In_eq, sb, hdig, drop_cons hc]
   cases hd : isDig (t.getD k 0)
   ·rw [if_neg (by simp)]
    unfold clampV dn
    rw [hd]; rfl
   ·have hb := dv_bd hd
    have hm : m_s_Min (W64 ((W64 (10 * y)) + (W64 (IntKind.u8.wrap (((t.getD k 0).toNat : Int) - 48))))) 1000000001 = some (min (y * 10 + dv (t.getD k 0)) 1000000001) := by
     unfold m_s_Min
     rw [dw hd, W64, W64, w64 (x := 10 * y) (by omega) (by omega), w64 (by omega) (by omega)]
     by_cases h : (1000000001 : Int) < 10 * y + dv (t.getD k 0)
     ·rw [if_pos h]; congr 1; omega
     ·rw [if_neg h]; congr 1; omega
    rw [if_pos rfl, sb, hm, sb, w_succ (by omega), sScan_go t hl g (k + 1) _ (by omega) (by omega) (by omega) (by omega)]
    conv => rhs; unfold clampV dn
    rw [hd, if_pos rfl, if_pos rfl]
    congr 2
    omega
  ·rw [if_neg (by omega), List.drop_eq_nil_of_le (by omega)]
   rfl
theorem clamp_eq {m : Int} : ∀ (t : Str) (a : Int), 0 ≤ a → a ≤ m → t.all isDig = true → clampV m a t = min (val a t) m
 | [], a, h0, h1, _ => by unfold clampV val; omega
 | b :: r, a, h0, h1, hd => by
  simp only [List.all_cons, Bool.and_eq_true] at hd
  have hb := dv_bd hd.1
  unfold clampV val
  rw [if_pos hd.1]
  by_cases h : a * 10 + dv b ≤ m
  ·rw [show min (a * 10 + dv b) m = a * 10 + dv b by omega]
   exact clamp_eq r _ (by omega) h hd.2
  ·rw [show min (a * 10 + dv b) m = m by omega, clamp_eq r m (by omega) (Int.le_refl _) hd.2]
   have q1 := val_ge r m (by omega) hd.2
   have q2 := val_ge r (a * 10 + dv b) (by omega) hd.2
   omega
theorem dn_all : ∀ (t : Str), dn t = t.length ↔ t.all isDig = true
 | [] => by simp [dn]
 | b :: r => by
  unfold dn
  rw [List.all_cons]
  cases hd : isDig b
  ·simp
  ·have := dn_all r
   simp only [if_true, List.length_cons, Bool.true_and]
   rw [← this]; omega
theorem iLead_go (t : Str) (hl : t.length ≤ 1000) : ∀ (f k : Nat) (y : Int), t.length ≤ k + f → k ≤ t.length → 0 ≤ y → y ≤ 1000000000 →
  m_i_LeadingInt_L2 t (k : Int) y = some (clampV 1000000000 y (t.drop k))
 | f, k, y, hf, hk, h0, h1 => by
  rw [m_i_LeadingInt_L2]
  by_cases hc : k < t.length
  ·obtain ⟨g, rfl⟩ : ∃ g, f = g + 1 := ⟨f - 1, by omega⟩
   rw [if_pos (by omega), sidx_nat hc, sb, dig_eq, sb, drop_cons hc]
   cases hd : isDig (t.getD k 0)
   ·rw [if_neg (by simp)]
    unfold clampV
    rw [hd]; rfl
   ·have hb := dv_bd hd
    have hm : m_i_Min (W64 ((W64 (y * 10)) + (W64 (IntKind.u8.wrap (((t.getD k 0).toNat : Int) - 48))))) 1000000000 = some (min (y * 10 + dv (t.getD k 0)) 1000000000) := by
     unfold m_i_Min
     rw [dw hd, W64, W64, w64 (x := y * 10) (by omega) (by omega), w64 (by omega) (by omega)]
     by_cases h : (1000000000 : Int) < y * 10 + dv (t.getD k 0)
     ·rw [if_pos h]; congr 1; omega
     ·rw [if_neg h]; congr 1; omega
    rw [if_pos rfl, sb, hm, sb, w_succ (by omega), iLead_go t hl g (k + 1) _ (by omega) (by omega) (by omega) (by omega)]
    conv => rhs; unfold clampV
    rw [hd, if_pos rfl]
  ·rw [if_neg (by omega), List.drop_eq_nil_of_le (by omega)]
   rfl
def numOf (s : Str) : Option Int :=
 match s with
 | [] => none
 | b :: r => if b.toNat = 45 then (if 1 ≤ r.length ∧ r.length ≤ 10 ∧ r.all isDig = true ∧ val 0 r ≤ 1000000000 then some (0 - val 0 r) else none)
  else if r.length + 1 ≤ 10 ∧ (b :: r).all isDig = true ∧ val 0 (b :: r) ≤ 1000000000 then some (val 0 (b :: r)) else none
theorem numOf_bd {s : Str} {n : Int} (h : numOf s = some n) : -1000000000 ≤ n ∧ n ≤ 1000000000 := by
 unfold numOf at h
 split at h
 ·cases h
 ·split at h
  ·split at h
   ·rename_i hc
    have := val_ge _ 0 (by omega) hc.2.2.1
    cases h; omega
   ·cases h
  ·split at h
   ·rename_i hc
    have := val_ge _ 0 (by omega) hc.2.1
    cases h; omega
   ·cases h
theorem iNumeric (s : Str) (hs : s.length ≤ 500) : m_i_IsNumeric s = some (numOf s).isSome := by
 unfold m_i_IsNumeric
 cases s with
 | nil => rw [if_pos rfl, sb, if_pos (by decide)]; rfl
 | cons b r =>
  rw [if_neg (by simp), show sidx (b :: r) 0 = some b from by rw [show (0 : Int) = ((0 : Nat) : Int) from rfl, sidx_nat (by simp)]; rfl, sb]
  have core : ∀ t : Str, (if (t.length : Int) < 1 then some false else (if (t.length : Int) > 10 then some false else (m_i_IsNumeric_L2 t 0 0 >>= fun o14 => match o14 with
    | .inr r => some r
    | .inl y13 => some (decide (y13 ≤ 1000000000))))) = some (decide (1 ≤ t.length ∧ t.length ≤ 10 ∧ t.all isDig = true ∧ val 0 t ≤ 1000000000)) := fun t => by
   by_cases h1 : (t.length : Int) < 1
   ·rw [if_pos h1, decide_eq_false (by omega)]
   rw [if_neg h1]
   by_cases h2 : (t.length : Int) > 10
   ·rw [if_pos h2, decide_eq_false (by omega)]
   have := iNum_go t (by omega) t.length 0 0 (by omega) (by omega) (by omega) (by decide)
   rw [show ((0 : Nat) : Int) = 0 from rfl, List.drop_zero] at this
   rw [if_neg h2, this, sb]
   cases hd : t.all isDig
   ·rw [if_neg (by simp)]; simp
   ·rw [if_pos rfl]
    dsimp only
    congr 1
    rw [decide_eq_decide]
    constructor
    ·intro h; exact ⟨by omega, by omega, rfl, h⟩
    ·intro h; exact h.2.2.2
  unfold numOf
  by_cases h45 : b.toNat = 45
  ·rw [if_pos (by omega), show sfrom (b :: r) 1 = some r from by unfold sfrom; rw [if_pos ⟨by omega, by simp; omega⟩]; rfl, sb, sb]
   refine (core r).trans ?_
   dsimp only
   rw [if_pos h45]
   by_cases hc : 1 ≤ r.length ∧ r.length ≤ 10 ∧ r.all isDig = true ∧ val 0 r ≤ 1000000000
   ·rw [if_pos hc, decide_eq_true hc]; rfl
   ·rw [if_neg hc, decide_eq_false hc]; rfl
  ·rw [if_neg (by omega), sb]
   refine (core (b :: r)).trans ?_
   dsimp only
   rw [if_neg h45]
   by_cases hc : r.length + 1 ≤ 10 ∧ (b :: r).all isDig = true ∧ val 0 (b :: r) ≤ 1000000000
   ·rw [if_pos hc, decide_eq_true ⟨by simp, by simpa using hc.1, hc.2⟩]; rfl
   ·rw [if_neg hc, decide_eq_false (fun h => hc ⟨by simpa using h.2.1, h.2.2⟩)]; rfl
theorem iLead {s : Str} (hs : s.length ≤ 500) {n : Int} (h : numOf s = some n) : m_i_LeadingInt s = some n := by
 unfold m_i_LeadingInt
 cases s with
 | nil => cases h
 | cons b r =>
  rw [if_neg (by simp), show sidx (b :: r) 0 = some b from by rw [show (0 : Int) = ((0 : Nat) : Int) from rfl, sidx_nat (by simp)]; rfl, sb, sb]
  unfold numOf at h
  dsimp only at h
  by_cases h45 : b.toNat = 45
  ·rw [if_pos h45] at h
   by_cases hc : 1 ≤ r.length ∧ r.length ≤ 10 ∧ r.all isDig = true ∧ val 0 r ≤ 1000000000
   ·rw [if_pos hc] at h
    cases h
    have hv := val_ge r 0 (by omega) hc.2.2.1
    have := iLead_go (b :: r) (by omega) r.length 1 0 (by simp; omega) (by simp) (by omega) (by omega)
    rw [show ((1 : Nat) : Int) = 1 from rfl, List.drop_one, List.tail_cons, clamp_eq r 0 (by omega) (by omega) hc.2.2.1] at this
    rw [if_pos (by rw [beq_iff_eq]; omega), sb, this, sb, if_pos (by rw [beq_iff_eq]; omega), show min (val 0 r) 1000000000 = val 0 r by omega, W64, w64 (by omega) (by omega)]
   ·rw [if_neg hc] at h; cases h
  ·rw [if_neg h45] at h
   by_cases hc : r.length + 1 ≤ 10 ∧ (b :: r).all isDig = true ∧ val 0 (b :: r) ≤ 1000000000
   ·rw [if_pos hc] at h
    cases h
    have hv := val_ge (b :: r) 0 (by omega) hc.2.1
    have := iLead_go (b :: r) (by omega) (r.length + 1) 0 0 (by simp) (by simp) (by omega) (by omega)
    rw [show ((0 : Nat) : Int) = 0 from rfl, List.drop_zero, clamp_eq (b :: r) 0 (by omega) (by omega) hc.2.1] at this
    rw [if_neg (by rw [beq_iff_eq]; omega), sb, this, sb, if_neg (by rw [beq_iff_eq]; omega), show min (val 0 (b :: r)) 1000000000 = val 0 (b :: r) by omega]
   ·rw [if_neg hc] at h; cases h
theorem scan_eq (s : Str) (at_ : Nat) (hs : s.length ≤ 500) (ha : at_ ≤ s.length) : m_s_l8Scan_L2 s 0 (at_ : Int) = some (clampV 1000000001 0 (s.drop at_), ((at_ + dn (s.drop at_) : Nat) : Int)) :=
 sScan_go s (by omega) s.length at_ 0 (by omega) ha (by omega) (by omega)
theorem dn_le : ∀ t : Str, dn t ≤ t.length
 | [] => Nat.le_refl _
 | b :: r => by
  have := dn_le r
  unfold dn
  split <;> simp <;> omega
theorem clamp_bd (m : Int) (hm : 0 ≤ m) : ∀ (t : Str) (a : Int), 0 ≤ a → a ≤ m → 0 ≤ clampV m a t ∧ clampV m a t ≤ m
 | [], a, h0, h1 => ⟨h0, h1⟩
 | b :: r, a, h0, h1 => by
  unfold clampV
  split
  ·rename_i hd
   have := dv_bd hd
   exact clamp_bd m hm r _ (by omega) (by omega)
  ·exact ⟨h0, h1⟩
theorem sScan (b : UInt8) (r : Str) (hs : (b :: r).length ≤ 500) : m_s_l8Scan (b :: r) = some (
  if b.toNat = 45 then (if dn r = 0 then (0, 0) else (0 - clampV 1000000001 0 r, ((dn r + 1 : Nat) : Int)))
  else (if dn (b :: r) = 0 then (0, 0) else (clampV 1000000001 0 (b :: r), ((dn (b :: r) : Nat) : Int)))) := by
 unfold m_s_l8Scan
 rw [if_pos (by rw [List.length_cons]; omega), show sidx (b :: r) 0 = some b from by rw [show (0 : Int) = ((0 : Nat) : Int) from rfl, sidx_nat (by simp)]; rfl, sb]
 by_cases h45 : b.toNat = 45
 ·have e := scan_eq (b :: r) 1 hs (by simp)
  rw [show ((1 : Nat) : Int) = 1 from rfl, List.drop_one, List.tail_cons] at e
  rw [if_pos (by omega), sb, e, sb]
  dsimp only
  rw [if_pos h45]
  have hb := clamp_bd 1000000001 (by omega) r 0 (by omega) (by omega)
  by_cases h : dn r = 0
  ·rw [if_pos (by omega), if_pos h]
  ·rw [if_neg (by omega), if_neg h, if_pos rfl, W64, w64 (by omega) (by omega)]
   congr 3 <;> omega
 ·have e := scan_eq (b :: r) 0 hs (by simp)
  rw [show ((0 : Nat) : Int) = 0 from rfl, List.drop_zero] at e
  rw [if_neg (by omega), sb, e, sb]
  dsimp only
  rw [if_neg h45]
  by_cases h : dn (b :: r) = 0
  ·rw [if_pos (by omega), if_pos h]
  ·rw [if_neg (by omega), if_neg h, if_neg (by omega), Nat.zero_add]
theorem sNumeric (s : Str) (hs : s.length ≤ 500) : m_s_IsNumeric s = some (numOf s).isSome := by
 unfold m_s_IsNumeric
 cases s with
 | nil =>
  have : m_s_l8Scan [] = some (0, 0) := by
   unfold m_s_l8Scan
   rw [if_neg (by simp), sb]
   have e := scan_eq [] 0 (by simp) (by simp)
   rw [show ((0 : Nat) : Int) = 0 from rfl] at e
   rw [e, sb]; rfl
  rw [this, sb]; rfl
 | cons b r =>
  rw [sScan b r hs, sb]
  have hl : (b :: r).length = r.length + 1 := rfl
  unfold numOf
  by_cases h45 : b.toNat = 45
  ·rw [if_pos h45]
   dsimp only
   rw [if_pos h45]
   have hle := dn_le r
   by_cases h : dn r = 0
   ·rw [if_pos h]
    dsimp only
    rw [if_neg (by omega), if_neg (fun hc => by have := (dn_all r).2 hc.2.2.1; omega)]; rfl
   ·rw [if_neg h]
    dsimp only
    rw [if_pos (by omega)]
    by_cases hd : dn r = r.length
    ·have ha := (dn_all r).1 hd
     have hv := val_ge r 0 (by omega) ha
     rw [if_pos (by omega), l1In_eq, sb, clamp_eq r 0 (by omega) (by omega) ha]
     by_cases hv2 : val 0 r ≤ 1000000000
     ·rw [if_pos (by rw [decide_eq_true_iff]; omega)]
      by_cases hk : r.length ≤ 10
      ·rw [if_pos (⟨by omega, hk, ha, hv2⟩ : 1 ≤ r.length ∧ r.length ≤ 10 ∧ r.all isDig = true ∧ val 0 r ≤ 1000000000)]
       by_cases h10 : ((dn r + 1 : Nat) : Int) ≤ 10
       ·rw [if_pos h10]; rfl
       ·rw [if_neg h10, if_pos (by omega), show sidx (b :: r) 0 = some b from by rw [show (0 : Int) = ((0 : Nat) : Int) from rfl, sidx_nat (by simp)]; rfl, sb]
        congr 1
        rw [beq_iff_eq.2 (by omega)]; rfl
      ·rw [if_neg (by omega), if_neg (by omega), if_neg (fun hc => hk hc.2.1)]; rfl
     ·rw [if_neg (by rw [decide_eq_true_iff]; omega), if_neg (fun hc => hv2 hc.2.2.2)]; rfl
    ·rw [if_neg (by omega), if_neg (fun hc => hd ((dn_all r).2 hc.2.2.1))]; rfl
  ·rw [if_neg h45]
   dsimp only
   rw [if_neg h45]
   have hle := dn_le (b :: r)
   by_cases h : dn (b :: r) = 0
   ·rw [if_pos h]
    dsimp only
    rw [if_neg (by omega), if_neg (fun hc => by have := (dn_all (b :: r)).2 hc.2.1; rw [hl] at this; omega)]; rfl
   ·rw [if_neg h]
    dsimp only
    rw [if_pos (by omega)]
    by_cases hd : dn (b :: r) = (b :: r).length
    ·have ha := (dn_all (b :: r)).1 hd
     have hv := val_ge (b :: r) 0 (by omega) ha
     rw [if_pos (by omega), l1In_eq, sb, clamp_eq (b :: r) 0 (by omega) (by omega) ha]
     by_cases hv2 : val 0 (b :: r) ≤ 1000000000
     ·rw [if_pos (by rw [decide_eq_true_iff]; omega)]
      by_cases hk : r.length + 1 ≤ 10
      ·rw [if_pos (⟨hk, ha, hv2⟩ : r.length + 1 ≤ 10 ∧ (b :: r).all isDig = true ∧ val 0 (b :: r) ≤ 1000000000), if_pos (by omega)]; rfl
      ·rw [if_neg (show ¬ ((dn (b :: r) : Nat) : Int) ≤ 10 by omega), if_neg (show ¬ (r.length + 1 ≤ 10 ∧ (b :: r).all isDig = true ∧ val 0 (b :: r) ≤ 1000000000) from fun hc => hk hc.1)]
       by_cases h11 : ((dn (b :: r) : Nat) : Int) = 11
       ·rw [if_pos h11, show sidx (b :: r) 0 = some b from by rw [show (0 : Int) = ((0 : Nat) : Int) from rfl, sidx_nat (by simp)]; rfl, sb]
        congr 1
        rw [beq_eq_false_iff_ne.2 (by omega)]; rfl
       ·rw [if_neg h11]; rfl
     ·rw [if_neg (by rw [decide_eq_true_iff]; omega), if_neg (fun hc => hv2 hc.2.2)]; rfl
    ·rw [if_neg (by omega), if_neg (fun hc => hd ((dn_all (b :: r)).2 hc.2.1))]; rfl
theorem sLead {s : Str} (hs : s.length ≤ 500) {n : Int} (h : numOf s = some n) : m_s_LeadingInt s = some n := by
 have hbd := numOf_bd h
 have fin : ∀ v : Int, v = n → (m_s_Min 1000000000 v >>= fun v4 => m_s_Max (-1000000000) v4 >>= fun v6 => some v6) = some n := fun v hv => by
  subst hv
  unfold m_s_Min m_s_Max
  by_cases h1 : v < 1000000000
  ·rw [if_pos h1, sb]
   by_cases h2 : v > -1000000000
   ·rw [if_pos h2, sb]
   ·rw [if_neg h2, sb]; congr 1; omega
  ·rw [if_neg h1, sb, if_pos (by omega), sb]; congr 1; omega
 unfold m_s_LeadingInt
 cases s with
 | nil => cases h
 | cons b r =>
  rw [sScan b r hs, sb]
  unfold numOf at h
  dsimp only at h
  by_cases h45 : b.toNat = 45
  ·rw [if_pos h45] at h ⊢
   by_cases hc : 1 ≤ r.length ∧ r.length ≤ 10 ∧ r.all isDig = true ∧ val 0 r ≤ 1000000000
   ·rw [if_pos hc] at h
    have hd := (dn_all r).2 hc.2.2.1
    have hv := val_ge r 0 (by omega) hc.2.2.1
    rw [if_neg (by omega)]
    refine fin _ ?_
    injection h with h
    rw [clamp_eq r 0 (by omega) (by omega) hc.2.2.1]
    omega
   ·rw [if_neg hc] at h; cases h
  ·rw [if_neg h45] at h ⊢
   by_cases hc : r.length + 1 ≤ 10 ∧ (b :: r).all isDig = true ∧ val 0 (b :: r) ≤ 1000000000
   ·rw [if_pos hc] at h
    have hd := (dn_all (b :: r)).2 hc.2.1
    have hv := val_ge (b :: r) 0 (by omega) hc.2.1
    have hl : (b :: r).length = r.length + 1 := rfl
    rw [if_neg (by omega)]
    refine fin _ ?_
    injection h with h
    rw [clamp_eq (b :: r) 0 (by omega) (by omega) hc.2.1]
    omega
   ·rw [if_neg hc] at h; cases h
theorem less_iff (a b : Str) : Op.bytesLess a b = true ↔ Lib.compareBytes a b = -1 := by
 induction a generalizing b with
 | nil => cases b <;> simp [Op.bytesLess, Lib.compareBytes]
 | cons x r ih =>
  cases b with
  | nil => simp [Op.bytesLess, Lib.compareBytes]
  | cons y q =>
   simp only [Op.bytesLess, Lib.compareBytes]
   by_cases h1 : x < y
   ·simp [h1]
   ·by_cases h2 : y < x
    ·have : x ≠ y := fun h => by subst h; exact absurd h2 (UInt8.lt_irrefl _)
     simp [h1, h2, this]
    ·have : x = y := UInt8.le_antisymm (UInt8.not_lt.1 h2) (UInt8.not_lt.1 h1)
     subst this
     simp [h1, ih]
theorem cmp_zero (a b : Str) : Lib.compareBytes a b = 0 ↔ a = b := by
 induction a generalizing b with
 | nil => cases b <;> simp [Lib.compareBytes]
 | cons x r ih =>
  cases b with
  | nil => simp [Lib.compareBytes]
  | cons y q =>
   simp only [Lib.compareBytes]
   by_cases h1 : x < y
   ·have : x ≠ y := fun h => by subst h; exact absurd h1 (UInt8.lt_irrefl _)
    simp [h1, this]
   ·by_cases h2 : y < x
    ·have : x ≠ y := fun h => by subst h; exact absurd h2 (UInt8.lt_irrefl _)
     simp [h1, h2, this]
    ·have : x = y := UInt8.le_antisymm (UInt8.not_lt.1 h2) (UInt8.not_lt.1 h1)
     simp [h1, h2, ih, this]
theorem cmp_three (a b : Str) : Lib.compareBytes a b = -1 ∨ Lib.compareBytes a b = 0 ∨ Lib.compareBytes a b = 1 := by
 induction a generalizing b with
 | nil => cases b <;> simp [Lib.compareBytes]
 | cons x r ih =>
  cases b with
  | nil => simp [Lib.compareBytes]
  | cons y q =>
   simp only [Lib.compareBytes]
   split
   ·simp
   ·split
    ·simp
    ·exact ih q
theorem sBytes (a b : Str) : m_s_l9Bytes a b = some (Lib.compareBytes a b) := by
 unfold m_s_l9Bytes
 by_cases h1 : Op.bytesLess a b = true
 ·rw [if_pos h1, (less_iff a b).1 h1]
 ·rw [if_neg h1]
  have h1' : Op.bytesLess a b = false := by simpa using h1
  rw [h1', Bool.false_or]
  by_cases h2 : a = b
  ·rw [if_pos (by simpa using h2), (cmp_zero a b).2 h2]
  ·rw [if_neg (by simpa using h2)]
   rcases cmp_three a b with h | h | h
   ·exact absurd ((less_iff a b).2 h) h1
   ·exact absurd ((cmp_zero a b).1 h) h2
   ·rw [h]
end Go.Am
set_option linter.unusedVariables false
set_option linter.unusedSimpArgs false
namespace Go.Am
open Go Go.RowKit Go.Proofs
theorem itoa_short {n : Int} (h0 : -1000000000 ≤ n) (h1 : n ≤ 1000000000) : (Lib.itoa n).length ≤ 11 := by
 unfold Lib.itoa
 split
 ·simp only [List.length_cons]
  rw [Lib.decDigits_length]
  have := nDig_le 9 n.natAbs (by simp only [Nat.reduceAdd, Nat.reducePow]; omega)
  omega
 ·rw [Lib.decDigits_length]
  have := nDig_le 9 n.toNat (by simp only [Nat.reduceAdd, Nat.reducePow]; omega)
  omega
structure Sc (v : TValue) : Prop where
 kind : v.fKind = 0 ∨ v.fKind = 1 ∨ v.fKind = 2 ∨ v.fKind = 3
 part : v.fItems = []
 num : -1000000000 ≤ v.fNum ∧ v.fNum ≤ 1000000000
 str : v.fStr.length ≤ 400
def tb (v : TValue) : Bool := (m_i_ToBool v).getD false
theorem iTB (v : TValue) : m_i_ToBool v = some (tb v) := by
 unfold tb m_i_ToBool
 by_cases h0 : v.fKind = 0 <;> by_cases h1 : v.fKind = 1 <;> by_cases h2 : v.fKind = 2 <;> by_cases h3 : v.fKind = 3 <;> by_cases h4 : v.fKind = 4 <;> by_cases hs : v.fStr = [] <;> simp [h0, h1, h2, h3, h4, hs, sb]
theorem sTB (v : TValue) : m_s_ToBool v = some (tb v) := (show m_s_ToBool v = m_i_ToBool v from rfl).trans (iTB v)
def bn (b : Bool) : Int := if b = true then 1 else 0
theorem iBN (b : Bool) : m_i_boolNum b = some (bn b) := by cases b <;> rfl
theorem sBit (v : TValue) : m_s_l9Bit v = some (bn (tb v)) := by
 unfold m_s_l9Bit
 rw [sTB, sb]
 cases tb v <;> rfl
def bv (b : Bool) : TValue := TValue.mk 1 (bn b) [] 0 []
theorem iBV (b : Bool) : m_i_BoolValue b = some (bv b) := by cases b <;> rfl
theorem sBV (b : Bool) : m_s_BoolValue b = some (bv b) := by cases b <;> rfl
theorem bv_sc (b : Bool) : Sc (bv b) := ⟨.inr (.inl rfl), rfl, by cases b <;> decide, by simp [bv]⟩
theorem iRange (a b c : Int) : m_i_InRange a b c = some (decide (b ≤ a ∧ a ≤ c)) := by
 unfold m_i_InRange
 by_cases h : a ≥ b
 ·rw [if_pos h]; congr 1; rw [decide_eq_decide]; omega
 ·rw [if_neg h, decide_eq_false (by omega)]
def ordV (a b : Int) : Int := if a < b then -1 else if a > b then 1 else 0
theorem iOrd (a b : Int) : m_i_orderOf a b = some (ordV a b) := by unfold m_i_orderOf ordV; repeat' first | rfl | split
theorem sOrd (a b : Int) : m_s_l9Order a b = some (ordV a b) := (show m_s_l9Order a b = m_i_orderOf a b from rfl).trans (iOrd a b)
theorem num_eq {v : TValue} (h : Sc v) : ∃ n e, m_i_ToNumber v = some (n, e) ∧ m_s_ToNumber v = some (n, e) := by
 have hs := h.str
 rcases h.kind with k | k | k | k
 ·simp only [m_i_ToNumber, m_s_ToNumber, m_i_ToInt, m_s_ToInt, l1In_eq, iTB, sTB, k, sb]
  cases tb v <;> exact ⟨_, _, rfl, rfl⟩
 ·simp only [m_i_ToNumber, m_s_ToNumber, m_i_ToInt, m_s_ToInt, l1In_eq, iTB, sTB, k, sb]
  cases tb v <;> exact ⟨_, _, rfl, rfl⟩
 ·simp only [m_i_ToNumber, m_s_ToNumber, m_i_ToInt, m_s_ToInt, l1In_eq, iTB, sTB, k, sb]
  exact ⟨_, _, rfl, rfl⟩
 ·simp only [m_i_ToNumber, m_s_ToNumber, m_i_ToInt, m_s_ToInt, l1In_eq, k, sb, iNumeric _ (show v.fStr.length ≤ 500 by omega), sNumeric _ (show v.fStr.length ≤ 500 by omega)]
  cases hn : numOf v.fStr with
  | none => exact ⟨_, _, rfl, rfl⟩
  | some n =>
   rw [iLead (by omega) hn, sLead (by omega) hn]
   exact ⟨_, _, rfl, rfl⟩
theorem text_eq {v : TValue} (h : Sc v) : ∃ t e, m_i_ToText v = some (t, e) ∧ m_s_ToText v = some (t, e) ∧ t.length ≤ 400 := by
 have hs := h.str
 have hn := h.num
 rcases h.kind with k | k | k | k
 ·simp only [m_i_ToText, m_s_ToText, k]
  exact ⟨_, _, rfl, rfl, by simp⟩
 ·simp only [m_i_ToText, m_s_ToText, k]
  by_cases h0 : v.fNum = 0
  ·simp only [h0]; exact ⟨_, _, rfl, rfl, by simp⟩
  ·simp only [h0]; exact ⟨_, _, rfl, rfl, by simp⟩
 ·simp only [m_i_ToText, m_s_ToText, m_i_FormatInt, m73, k, if_pos (show -9223372036854775808 ≤ v.fNum ∧ v.fNum ≤ 9223372036854775807 by omega), m94_eq v.fNum (by omega) (by omega), sb]
  exact ⟨_, _, rfl, rfl, by have := itoa_short hn.1 hn.2; omega⟩
 ·simp only [m_i_ToText, m_s_ToText, k]
  exact ⟨_, _, rfl, rfl, hs⟩
theorem sText (v : TValue) : m_i_isScalarText v = some (decide (2 ≤ v.fKind ∧ v.fKind ≤ 3)) := by
 unfold m_i_isScalarText
 by_cases h : v.fKind = 2
 ·rw [if_pos h, decide_eq_true (by omega)]
 ·rw [if_neg h]; congr 1; rw [Bool.eq_iff_iff]; simp; omega
theorem cmp_eq {v w : TValue} (h : Sc v) (g : Sc w) : ∃ c, m_i_CompareValues v w = some c ∧ m_s_CompareValues v w = some c := by
 obtain ⟨n1, e1, i1, s1⟩ := num_eq h
 obtain ⟨n2, e2, i2, s2⟩ := num_eq g
 obtain ⟨t1, f1, j1, r1, _⟩ := text_eq h
 obtain ⟨t2, f2, j2, r2, _⟩ := text_eq g
 rw [m_i_CompareValues, m_s_CompareValues]
 simp only [i1, i2, s1, s2, j1, j2, r1, r2, iTB, sTB, iBN, sBit, iOrd, sOrd, sText, l1In_eq, sBytes, m_Compare, sb]
 rcases h.kind with k | k | k | k <;> rcases g.kind with l | l | l | l <;> rw [k, l] <;> simp [sb]
 all_goals
  by_cases q1 : e1 = 0
  ·by_cases q2 : e2 = 0
   ·simp [q1, q2, sb]
   ·simp [q1, q2, sb]
  ·simp [q1, sb]
theorem idn_eq {v w : TValue} (h : Sc v) (g : Sc w) : ∃ c, m_i_Identical v w = some c ∧ m_s_Identical v w = some c := by
 have hv := h.part
 have hw := g.part
 rw [m_i_Identical, m_s_Identical, hv, hw]
 have e1 : m_i_Identical_L2 v w 0 = some (.inl ()) := by rw [m_i_Identical_L2, hv]; rfl
 have e2 : m_s_Identical_L2 v w 0 = some (.inl ()) := by rw [m_s_Identical_L2, hv]; rfl
 rw [e1, e2]
 repeat' first | exact ⟨_, rfl, rfl⟩ | split
def rl (o c : Int) : Bool := (m_i_Relation o c).getD false
theorem iRel (o c : Int) : m_i_Relation o c = some (rl o c) := by
 unfold rl m_i_Relation
 repeat' first | rfl | split
theorem sRel (o c : Int) : m_s_Relation o c = some (rl o c) := (show m_s_Relation o c = m_i_Relation o c from rfl).trans (iRel o c)
theorem arith_eq (o a b : Int) : ∃ n e, m_i_Arith o a b = some (n, e) ∧ m_s_Arith o a b = some (n, e) := by
 unfold m_i_Arith m_s_Arith
 simp only [iRange, l1In_eq, sb]
 by_cases ho : 1 ≤ o ∧ o ≤ 5
 ·rw [if_neg (by omega), if_neg (by omega), if_pos (decide_eq_true ho)]
  by_cases ha : -1000000000 ≤ a ∧ a ≤ 1000000000
  ·rw [if_pos (decide_eq_true ha), if_pos (decide_eq_true ha)]
   by_cases hb : -1000000000 ≤ b ∧ b ≤ 1000000000
   ·rw [if_pos (decide_eq_true hb), decide_eq_true hb, sb, Bool.not_true, if_neg Bool.false_ne_true]
    by_cases hz : b = 0
    ·rw [if_pos hz]
     by_cases h4 : o = 4
     ·subst h4; subst hz; exact ⟨_, _, rfl, rfl⟩
     by_cases h5 : o = 5
     ·subst h5; subst hz; exact ⟨_, _, rfl, rfl⟩
     rw [if_neg h4, if_neg h5, if_neg (show ¬ o ≥ 4 by omega), sb, sb, if_neg Bool.false_ne_true]
     dsimp only
     have h3 : o = 1 ∨ o = 2 ∨ o = 3 := by omega
     rcases h3 with q | q | q <;> subst q <;> repeat' first | exact ⟨_, _, rfl, rfl⟩ | (exfalso; omega) | split
    ·have eb : (if o ≥ 4 then some (b == 0) else some false) = some false := by
      rw [show (b == 0) = false by simpa using hz]; split <;> rfl
     have em : must (b ≠ 0) = some () := if_pos hz
     rw [if_neg hz, eb, sb, sb, if_neg Bool.false_ne_true, em]
     simp only [sb]
     have h3 : o = 1 ∨ o = 2 ∨ o = 3 ∨ o = 4 ∨ o = 5 := by omega
     rcases h3 with q | q | q | q | q <;> subst q <;> repeat' first | exact ⟨_, _, rfl, rfl⟩ | (exfalso; omega) | split
   ·rw [if_neg (fun hc => hb (of_decide_eq_true hc)), decide_eq_false hb]; exact ⟨_, _, rfl, rfl⟩
  ·rw [if_neg (fun hc => ha (of_decide_eq_true hc)), if_neg (fun hc => ha (of_decide_eq_true hc))]; exact ⟨_, _, rfl, rfl⟩
 ·rw [if_neg (fun hc => ho (of_decide_eq_true hc))]
  by_cases h1 : o < 1
  ·rw [if_pos h1]; exact ⟨_, _, rfl, rfl⟩
  ·rw [if_neg h1, if_pos (by omega)]; exact ⟨_, _, rfl, rfl⟩
theorem bin_eq (o : Int) {v w : TValue} (h : Sc v) (g : Sc w) : ∃ r e, m_i_BinaryOp o v w = some (r, e) ∧ m_s_BinaryOp o v w = some (r, e) := by
 obtain ⟨n1, e1, i1, s1⟩ := num_eq h
 obtain ⟨n2, e2, i2, s2⟩ := num_eq g
 obtain ⟨t1, f1, j1, r1, l1⟩ := text_eq h
 obtain ⟨t2, f2, j2, r2, l2⟩ := text_eq g
 obtain ⟨c, ci, cs⟩ := cmp_eq h g
 obtain ⟨d, di, ds⟩ := idn_eq h g
 obtain ⟨n, e, ai, as'⟩ := arith_eq o n1 n2
 have hk : ¬ v.fKind = 4 := by have := h.kind; omega
 unfold m_i_BinaryOp m_s_BinaryOp m_s_l10Concat
 simp only [i1, i2, s1, s2, j1, j2, r1, r2, ci, cs, di, ds, ai, as', iBV, sBV, iRel, sRel, l1In_eq, sb, hk, if_false]
 have tail : ∃ r x, (if e1 = 0 then (if e2 = 0 then (if e = 0 then some ((TValue.mk 2 n [] 0 []), (0 : Int)) else some ((TValue.mk 0 0 [] 0 []), e)) else some ((TValue.mk 0 0 [] 0 []), 2)) else some ((TValue.mk 0 0 [] 0 []), 2)) = some (r, x) := by
  repeat' first | exact ⟨_, _, rfl⟩ | split
 obtain ⟨r, x, et⟩ := tail
 by_cases h1 : o = 1
 ·subst h1; exact ⟨r, x, et, et⟩
 by_cases h6 : o = 6
 ·subst h6
  have w1 : W64 ((t1.length : Int) + (t2.length : Int)) = (t1.length : Int) + t2.length := by rw [W64, w64 (by omega) (by omega)]
  have w2 : W64 (400 - (t2.length : Int)) = 400 - t2.length := by rw [W64, w64 (by omega) (by omega)]
  have hsc : scat t1 t2 = some (t1 ++ t2) := if_pos (by omega)
  simp only [w1, w2, hsc, sb]
  by_cases z1 : f1 = 0
  ·by_cases z2 : f2 = 0
   ·by_cases z3 : (t1.length : Int) + t2.length > 400
    ·have z4 : (t1.length : Int) > 400 - t2.length := by omega
     simp [z1, z2, z3, z4, sb]
    ·have z4 : ¬ (t1.length : Int) > 400 - t2.length := by omega
     simp [z1, z2, z3, z4, sb]
   ·simp [z1, z2, sb]
  ·simp [z1, sb]
 by_cases h9 : o = 9
 ·subst h9; simp [sb]
 by_cases h10 : o = 10
 ·subst h10; simp [sb]
 by_cases h15 : o = 15
 ·subst h15; simp [sb]
 by_cases h7 : 7 ≤ o ∧ o ≤ 14
 ·have : o = 7 ∨ o = 8 ∨ o = 11 ∨ o = 12 ∨ o = 13 ∨ o = 14 := by omega
  rcases this with q | q | q | q | q | q <;> subst q <;> simp [sb]
 ·have q7 : ¬ o = 7 := by omega
  have q8 : ¬ o = 8 := by omega
  have q11 : ¬ o = 11 := by omega
  have q12 : ¬ o = 12 := by omega
  have q13 : ¬ o = 13 := by omega
  have q14 : (o == 14) = false := by rw [beq_eq_false_iff_ne]; omega
  simp only [h1, h6, h9, h10, h15, q7, q8, q11, q12, q13, q14, if_false, sb, if_neg (show ¬ (decide (7 ≤ o ∧ o ≤ 14) = true) by simpa using h7), if_neg (show ¬ (false = true) by decide)]
  exact ⟨r, x, et, et⟩
theorem un_eq (o : Int) {v : TValue} (h : Sc v) : ∃ r e, m_i_UnaryOp o v = some (r, e) ∧ m_s_UnaryOp o v = some (r, e) := by
 unfold m_i_UnaryOp m_s_UnaryOp
 simp only [iTB, sTB, sb, iBV, sBV]
 by_cases h1 : o = 1
 ·simp only [if_pos h1]; exact ⟨_, _, rfl, rfl⟩
 by_cases h2 : o = 2
 ·obtain ⟨r, e, a, b⟩ := bin_eq 2 (v := TValue.mk 2 0 [] 0 []) ⟨.inr (.inr (.inl rfl)), rfl, ⟨by decide, by decide⟩, by simp⟩ h
  simp only [if_neg h1, if_pos h2, a, b]; exact ⟨_, _, rfl, rfl⟩
 ·simp only [if_neg h1, if_neg h2]; exact ⟨_, _, rfl, rfl⟩
theorem of_eq (v : TValue) : ∃ x b, m_i_PushOf v = some (x, b) ∧ m_s_PushOf v = some (x, b) := by
 have e : m_i_PushOf v = m_s_PushOf v := by
  unfold m_i_PushOf m_s_PushOf
  simp only [iTB, iBN, sBit, iRange, l1In_eq, sb]
 rw [← e]
 suffices h : ∃ x b, m_i_PushOf v = some (x, b) by
  obtain ⟨x, b, h⟩ := h
  exact ⟨x, b, h, h⟩
 unfold m_i_PushOf
 simp only [iTB, iBN, iRange, sb]
 by_cases h0 : v.fKind = 0
 ·rw [if_pos h0]; exact ⟨_, _, rfl⟩
 by_cases h1 : v.fKind = 1
 ·rw [if_neg h0, if_pos h1]; exact ⟨_, _, rfl⟩
 rw [if_neg h0, if_neg h1]
 by_cases h2 : v.fKind = 2
 ·rw [if_pos h2, sb]
  split
  ·exact ⟨_, _, rfl⟩
  ·rw [if_neg (by omega)]; exact ⟨_, _, rfl⟩
 ·rw [if_neg h2, sb, if_neg Bool.false_ne_true]
  split
  ·split <;> exact ⟨_, _, rfl⟩
  ·exact ⟨_, _, rfl⟩
theorem push_eq (x : TIns) : ∃ v b, m_i_PushValue x = some (v, b) ∧ m_s_PushValue x = some (v, b) ∧ (b = true → x.fOp = 2 ∧ v = TValue.mk 2 x.fA [] 0 [] ∨ x.fOp = 3 ∧ v = TValue.mk 3 0 x.fS 0 [] ∨ Sc v) := by
 unfold m_i_PushValue m_s_PushValue m_s_l19Const
 by_cases h2 : x.fOp = 2
 ·simp only [if_pos h2]; exact ⟨_, _, rfl, rfl, fun _ => .inl ⟨h2, rfl⟩⟩
 by_cases h3 : x.fOp = 3
 ·simp only [if_neg h2, if_pos h3]; exact ⟨_, _, rfl, rfl, fun _ => .inr (.inl ⟨h3, rfl⟩)⟩
 by_cases h4 : x.fOp = 4
 ·simp only [if_neg h2, if_neg h3, if_pos h4, iBV, sBV, sb, show (TNode.mk 3 x.fA [] []).fKind = 3 from rfl, show (TNode.mk 3 x.fA [] []).fNum = x.fA from rfl, if_neg (show ¬ (3 : Int) = 1 by omega), if_neg (show ¬ (3 : Int) = 2 by omega)]
  by_cases hA : x.fA = 0
  ·simp only [if_pos hA]; exact ⟨_, _, rfl, rfl, fun _ => .inr (.inr ⟨.inl rfl, rfl, ⟨by decide, by decide⟩, by simp⟩)⟩
  ·simp only [if_neg hA]; exact ⟨_, _, rfl, rfl, fun _ => .inr (.inr (bv_sc _))⟩
 ·simp only [if_neg h2, if_neg h3, if_neg h4]; exact ⟨_, _, rfl, rfl, fun h => by cases h⟩
theorem ins_int {x : TIns} {a b : Int} (h : insB x a b = true) (ho : x.fOp = 2) : 0 ≤ x.fA ∧ x.fA ≤ 1000000000 := by
 have h1 : m_i_IsIns x a b = some true := by rw [iIns, h]
 unfold m_i_IsIns at h1
 obtain ⟨v1, _, h1⟩ := bind_some h1
 by_cases hv : v1 = true
 ·rw [if_pos hv] at h1
  obtain ⟨v4, h4, h1⟩ := bind_some h1
  by_cases hv4 : v4 = true
  ·subst hv4
   unfold m_i_operandA at h4
   rw [if_pos ho, iRange, sb] at h4
   simpa using h4
  ·rw [if_neg hv4] at h1; cases h1
 ·rw [if_neg hv] at h1; cases h1
theorem ins_text {x : TIns} {a b : Int} (h : insB x a b = true) (ho : x.fOp = 3) : x.fS.length ≤ 400 := by
 have h1 : m_i_IsIns x a b = some true := by rw [iIns, h]
 unfold m_i_IsIns at h1
 obtain ⟨v1, _, h1⟩ := bind_some h1
 by_cases hv : v1 = true
 ·rw [if_pos hv] at h1
  obtain ⟨v4, h4, h1⟩ := bind_some h1
  by_cases hv4 : v4 = true
  ·rw [if_pos hv4] at h1
   obtain ⟨v7, h7, h1⟩ := bind_some h1
   by_cases hv7 : v7 = true
   ·rw [if_pos hv7, ho] at h1
    refine Decidable.byContradiction fun hc => ?_
    rw [if_neg (by omega), if_neg (by omega), if_neg (by omega), if_neg (by omega), sb, if_neg (by simp), if_pos rfl, if_pos (by omega), sb] at h1
    cases h1
   ·rw [if_neg hv7] at h1; cases h1
  ·rw [if_neg hv4] at h1; cases h1
 ·rw [if_neg hv] at h1; cases h1
theorem push_sc {x : TIns} {a b : Int} (h : insB x a b = true) : ∃ v p, m_i_PushValue x = some (v, p) ∧ m_s_PushValue x = some (v, p) ∧ (p = true → Sc v) := by
 obtain ⟨v, p, i, s, hv⟩ := push_eq x
 refine ⟨v, p, i, s, fun hp => ?_⟩
 rcases hv hp with ⟨ho, e⟩ | ⟨ho, e⟩ | e
 ·subst e; have := ins_int h ho; exact ⟨.inr (.inr (.inl rfl)), rfl, ⟨by show -1000000000 ≤ x.fA; omega, this.2⟩, by simp⟩
 ·subst e; exact ⟨.inr (.inr (.inr rfl)), rfl, ⟨by show (-1000000000 : Int) ≤ 0; omega, by show (0 : Int) ≤ 1000000000; omega⟩, ins_text h ho⟩
 ·exact e
end Go.Am
set_option linter.unusedVariables false
set_option linter.unusedSimpArgs false
namespace Go.Am
open Go Go.RowKit Go.Proofs
theorem heights_ins (a0 : TFunc) (hn : a0.fCode.length ≤ 2000000) {l : List Int} (h : m_i_HeightsOf a0 = some (l, true)) : ∀ x ∈ a0.fCode, insB x (a0.fSlots.length : Int) (a0.fCode.length : Int) = true := by
 unfold m_i_HeightsOf at h
 by_cases h0 : a0.fCode.length = 0
 ·have hd : a0.fCode = [] := List.eq_nil_of_length_eq_zero h0
  intro x hx; rw [hd] at hx; cases hx
 ·rw [if_neg (by omega)] at h
  have em : (lmake 8 (a0.fCode.length : Int) (a0.fCode.length : Int) : Option (List Int)) = some (List.replicate a0.fCode.length default) := by
   unfold lmake
   rw [if_pos ⟨by omega, by omega, by omega, by omega⟩]; rfl
  have ei := iFill a0 hn a0.fCode.length 0 (List.replicate a0.fCode.length default) (by omega) (by omega) (by simp) (fun j h => absurd h (by omega))
  rw [show ((0 : Nat) : Int) = 0 from rfl] at ei
  rw [em, sb, ei, List.drop_zero] at h
  cases hall : a0.fCode.all (fun x => insB x (a0.fSlots.length : Int) (a0.fCode.length : Int))
  ·rw [hall] at h; cases h
  ·exact fun x hx => List.all_eq_true.1 hall x hx
def isT (code : List TIns) (j : Int) : Bool := code.any fun x => tgt x.fOp && decide (x.fA = j)
section
variable (a : TFunc) (hn : a.fCode.length ≤ 2000000)
include hn
theorem tgo : ∀ (f k : Nat) (l : List Int), a.fCode.length ≤ k + f → k ≤ a.fCode.length → l.length ≤ k →
  ∃ L, m_i_TargetsOf_L2 a l (k : Int) = some L ∧ L.length ≤ a.fCode.length ∧ ∀ j : Int, 0 ≤ j → j < a.fCode.length → (j ∈ L ↔ j ∈ l ∨ isT (a.fCode.drop k) j = true)
 | f, k, l, hf, hk, hl => by
  rw [m_i_TargetsOf_L2]
  by_cases hc : k < a.fCode.length
  ·obtain ⟨g, rfl⟩ : ∃ g, f = g + 1 := ⟨f - 1, by omega⟩
   rw [if_pos (by omega), idx_nat hc, sb, iTgt, sb, w_succ (by omega), List.drop_eq_getElem_cons hc]
   generalize hx : a.fCode[k] = x
   have keep : (∀ j : Int, 0 ≤ j → j < a.fCode.length → ¬ (tgt x.fOp = true ∧ x.fA = j)) → ∃ L, m_i_TargetsOf_L2 a l ((k + 1 : Nat) : Int) = some L ∧ L.length ≤ a.fCode.length ∧ ∀ j : Int, 0 ≤ j → j < a.fCode.length → (j ∈ L ↔ j ∈ l ∨ isT (x :: a.fCode.drop (k + 1)) j = true) := fun hno => by
    obtain ⟨L, e, h1, h2⟩ := tgo g (k + 1) l (by omega) (by omega) (by omega)
    refine ⟨L, e, h1, fun j h0 hj => (h2 j h0 hj).trans ?_⟩
    unfold isT
    rw [List.any_cons, Bool.or_eq_true, Bool.and_eq_true, decide_eq_true_iff]
    have := hno j h0 hj
    constructor
    ·rintro (h | h)
     ·exact .inl h
     ·exact .inr (.inr h)
    ·rintro (h | h | h)
     ·exact .inl h
     ·exact absurd h this
     ·exact .inr h
   by_cases ht : tgt x.fOp = true
   ·rw [if_pos ht]
    by_cases h0 : x.fA ≥ 0
    ·rw [if_pos h0]
     by_cases h1 : x.fA < a.fCode.length
     ·rw [if_pos h1, lapp_eq (by simp; omega), sb]
      obtain ⟨L, e, q1, q2⟩ := tgo g (k + 1) (l ++ [x.fA]) (by omega) (by omega) (by simp; omega)
      refine ⟨L, e, q1, fun j h0 hj => (q2 j h0 hj).trans ?_⟩
      unfold isT
      rw [List.any_cons, Bool.or_eq_true, Bool.and_eq_true, decide_eq_true_iff, List.mem_append, List.mem_singleton]
      constructor
      ·rintro ((h | h) | h)
       ·exact .inl h
       ·exact .inr (.inl ⟨ht, h.symm⟩)
       ·exact .inr (.inr h)
      ·rintro (h | h | h)
       ·exact .inl (.inl h)
       ·exact .inl (.inr h.2.symm)
       ·exact .inr h
     ·rw [if_neg h1]; exact keep fun j h0 hj hh => by omega
    ·rw [if_neg h0]; exact keep fun j h0 hj hh => by omega
   ·rw [if_neg ht]; exact keep fun j h0 hj hh => ht hh.1
  ·rw [if_neg (by omega), List.drop_eq_nil_of_le (by omega)]
   exact ⟨l, rfl, by omega, fun j _ _ => by simp [isT]⟩
omit hn in
theorem compact_mem (l : List Int) (y : Int) : y ∈ Lib.compact l ↔ y ∈ l := by
 have up : ∀ m, y ∈ Lib.compactUpTo l.toArray m ↔ ∃ j, j < m ∧ l.toArray[j]! = y := fun m => by
  induction m with
  | zero => simp [Lib.compactUpTo]
  | succ m ih =>
   rw [Lib.compactUpTo_succ, List.mem_append, ih]
   by_cases hk : Lib.keeps l.toArray m = true
   ·rw [if_pos hk, List.mem_singleton]
    constructor
    ·rintro (⟨j, h1, h2⟩ | h)
     ·exact ⟨j, by omega, h2⟩
     ·exact ⟨m, by omega, h.symm⟩
    ·rintro ⟨j, h1, h2⟩
     by_cases e : j = m
     ·subst e; exact .inr h2.symm
     ·exact .inl ⟨j, by omega, h2⟩
   ·rw [if_neg hk]
    have hm : m ≠ 0 ∧ l.toArray[m]! = l.toArray[m - 1]! := by
     unfold Lib.keeps at hk
     rw [decide_eq_true_iff] at hk
     exact ⟨fun h => hk (.inl h), Decidable.byContradiction fun h => hk (.inr h)⟩
    constructor
    ·rintro (⟨j, h1, h2⟩ | h)
     ·exact ⟨j, by omega, h2⟩
     ·cases h
    ·rintro ⟨j, h1, h2⟩
     by_cases e : j = m
     ·subst e; exact .inl ⟨j - 1, by omega, by rw [← hm.2]; exact h2⟩
     ·exact .inl ⟨j, by omega, h2⟩
 unfold Lib.compact
 rw [up, List.mem_iff_getElem]
 constructor
 ·rintro ⟨j, h1, h2⟩
  exact ⟨j, h1, by rw [← h2]; simp [h1]⟩
 ·rintro ⟨j, h1, h2⟩
  exact ⟨j, h1, by rw [← h2]; simp [h1]⟩
omit hn in
theorem set_go (L : List Int) (hL : L.length ≤ 2000000) : ∀ (f k : Nat) (M : List (Int × Bool)), L.length ≤ k + f → k ≤ L.length →
  ∃ M', m_i_targetSet_L2 L M (k : Int) = some M' ∧ ∀ j, mgd M' j false = (mgd M j false || decide (j ∈ L.drop k))
 | f, k, M, hf, hk => by
  rw [m_i_targetSet_L2]
  by_cases hc : k < L.length
  ·obtain ⟨g, rfl⟩ : ∃ g, f = g + 1 := ⟨f - 1, by omega⟩
   rw [if_pos (by omega), idx_nat hc, sb, w_succ (by omega), List.drop_eq_getElem_cons hc]
   obtain ⟨M', e, h⟩ := set_go L hL g (k + 1) (mput M L[k] true) (by omega) (by omega)
   refine ⟨M', e, fun j => ?_⟩
   rw [h, mgd_mput]
   by_cases q : j = L[k]
   ·rw [if_pos q, Bool.true_or, decide_eq_true (by rw [q]; exact List.mem_cons_self), Bool.or_true]
   ·rw [if_neg q]
    congr 1
    rw [decide_eq_decide, List.mem_cons]
    exact ⟨.inr, fun h => h.resolve_left q⟩
  ·rw [if_neg (by omega), List.drop_eq_nil_of_le (by omega)]
   exact ⟨M, rfl, fun j => by simp⟩
theorem iSet : ∃ M, m_i_targetSet a = some M ∧ ∀ j : Nat, j < a.fCode.length → mgd M (j : Int) false = isT a.fCode j := by
 obtain ⟨L, e, h1, h2⟩ := tgo a hn a.fCode.length 0 [] (by omega) (by omega) (by simp)
 rw [show ((0 : Nat) : Int) = 0 from rfl, List.drop_zero] at *
 have e3 : m_SortN L = some (srt L) := if_pos (by omega)
 have e4 : m_CompactN (srt L) = some (Lib.compact (srt L)) := if_pos (by rw [srt_len]; omega)
 have hl : (Lib.compact (srt L)).length ≤ 2000000 := by have := compact_le (srt L); rw [srt_len] at this; omega
 obtain ⟨M, e5, h5⟩ := set_go (Lib.compact (srt L)) hl (Lib.compact (srt L)).length 0 [] (by omega) (by omega)
 rw [show ((0 : Nat) : Int) = 0 from rfl, List.drop_zero] at *
 unfold m_i_targetSet m_i_TargetsOf
 rw [e, sb, e3, sb, sb, e4, sb, sb, e5, sb]
 refine ⟨M, rfl, fun j hj => ?_⟩
 rw [h5, show mgd ([] : List (Int × Bool)) (j : Int) false = false from rfl, Bool.false_or, Bool.eq_iff_iff, decide_eq_true_iff, compact_mem]
 have : (j : Int) ∈ srt L ↔ (j : Int) ∈ L := (List.mergeSort_perm L _).mem_iff
 rw [this, h2 j (by omega) (by omega)]
 simp
theorem hit_go : ∀ (f k : Nat) (H : List Bool), a.fCode.length ≤ k + f → k ≤ a.fCode.length → H.length = a.fCode.length + 1 →
  ∃ H', m_s_l30Hit_L2 a.fCode H (k : Int) = some H' ∧ H'.length = a.fCode.length + 1 ∧ ∀ j : Nat, j < a.fCode.length → H'.getD j false = (H.getD j false || isT (a.fCode.drop k) j)
 | f, k, H, hf, hk, hH => by
  rw [m_s_l30Hit_L2]
  by_cases hc : k < a.fCode.length
  ·obtain ⟨g, rfl⟩ : ∃ g, f = g + 1 := ⟨f - 1, by omega⟩
   rw [if_pos (by omega), idx_nat hc, sb, sTgt, sb, w_succ (by omega), sb, l1In_eq, sb, sb, List.drop_eq_getElem_cons hc]
   generalize hx : a.fCode[k] = x
   have keep : (∀ j : Nat, j < a.fCode.length → ¬ (tgt x.fOp = true ∧ x.fA = (j : Int))) → ∃ H', m_s_l30Hit_L2 a.fCode H ((k + 1 : Nat) : Int) = some H' ∧ H'.length = a.fCode.length + 1 ∧ ∀ j : Nat, j < a.fCode.length → H'.getD j false = (H.getD j false || isT (x :: a.fCode.drop (k + 1)) j) := fun hno => by
    obtain ⟨H', e, h1, h2⟩ := hit_go g (k + 1) H (by omega) (by omega) hH
    refine ⟨H', e, h1, fun j hj => (h2 j hj).trans ?_⟩
    unfold isT
    rw [List.any_cons]
    have := hno j hj
    rw [show (tgt x.fOp && decide (x.fA = (j : Int))) = false by rw [Bool.eq_false_iff]; intro h; rw [Bool.and_eq_true, decide_eq_true_iff] at h; exact this h, Bool.false_or]
   by_cases ht : tgt x.fOp = true
   ·rw [if_pos ht]
    by_cases h1 : 0 ≤ x.fA ∧ x.fA ≤ (a.fCode.length : Int)
    ·obtain ⟨t, et⟩ : ∃ t : Nat, x.fA = (t : Int) := ⟨x.fA.toNat, by omega⟩
     rw [if_pos (decide_eq_true h1), et, idx_nat (by omega), sb, Int.toNat_natCast]
     obtain ⟨H', e, q1, q2⟩ := hit_go g (k + 1) (H.set t true) (by omega) (by omega) (by simpa using hH)
     refine ⟨H', e, q1, fun j hj => (q2 j hj).trans ?_⟩
     unfold isT
     rw [List.any_cons, ht, et, Bool.true_and]
     by_cases q : t = j
     ·subst q
      rw [decide_eq_true rfl, Bool.true_or, Bool.or_true, List.getD_eq_getElem?_getD, List.getElem?_set_self (by omega)]; rfl
     ·rw [decide_eq_false (by omega), Bool.false_or, List.getD_eq_getElem?_getD, List.getElem?_set_ne q, List.getD_eq_getElem?_getD]
    ·rw [if_neg (fun hc => h1 (of_decide_eq_true hc))]; exact keep fun j hj hh => by omega
   ·rw [if_neg ht]; exact keep fun j hj hh => ht hh.1
  ·rw [if_neg (by omega), List.drop_eq_nil_of_le (by omega)]
   exact ⟨H, rfl, hH, fun j _ => by simp [isT]⟩
theorem sHit : ∃ H, m_s_l30Hit a.fCode = some H ∧ ∀ j : Nat, j < a.fCode.length → idx H (j : Int) = some (isT a.fCode j) := by
 have em : (lmake 1 (W64 ((a.fCode.length : Int) + 1)) (W64 ((a.fCode.length : Int) + 1)) : Option (List Bool)) = some (List.replicate (a.fCode.length + 1) false) := by
  rw [w_succ (by omega)]
  unfold lmake
  rw [if_pos ⟨by omega, by omega, by omega, by omega⟩]; rfl
 obtain ⟨H, e, h1, h2⟩ := hit_go a hn a.fCode.length 0 (List.replicate (a.fCode.length + 1) false) (by omega) (by omega) (by simp)
 rw [show ((0 : Nat) : Int) = 0 from rfl, List.drop_zero] at *
 unfold m_s_l30Hit
 rw [em, sb, e, sb]
 refine ⟨H, rfl, fun j hj => ?_⟩
 have := h2 j hj
 rw [idx_nat (by omega)]
 congr 1
 rw [List.getD_eq_getElem?_getD, List.getElem?_eq_getElem (by omega)] at this
 have z : (List.replicate (a.fCode.length + 1) false).getD j false = false := by rw [List.getD_eq_getElem?_getD, List.getElem?_replicate]; split <;> rfl
 rw [z, Bool.false_or] at this
 exact this
end
theorem tv_eta (v : TValue) : TValue.mk v.fKind v.fNum v.fStr v.fNext v.fItems = v := by cases v; rfl
theorem w_two {i : Nat} (h : i < 9000000000000) : W64 ((i : Int) + 2) = ((i + 2 : Nat) : Int) := w_nat (by omega) (by omega)
theorem window_eq (code : List TIns) (s : Int) (hn : code.length ≤ 2000000) (hI : ∀ x ∈ code, insB x s (code.length : Int) = true) (M : List (Int × Bool)) (H : List Bool) (T : Int → Bool)
  (hM : ∀ j : Nat, j < code.length → mgd M (j : Int) false = T j) (hH : ∀ j : Nat, j < code.length → idx H (j : Int) = some (T j)) (i : Nat) (hi : i < code.length) :
  ∃ w, m_i_windowAt code M (i : Int) = some w ∧ m_s_l30Window code H (i : Int) = some w ∧ i + w.length ≤ code.length ∧ w.length ≤ 3 := by
 obtain ⟨v, p, ip, sp, hv⟩ := push_sc (hI _ (List.getElem_mem hi))
 unfold m_i_windowAt m_s_l30Window
 simp only [idx_nat hi, sb, ip, sp, tv_eta, w_succ (show i < 9223372036854775807 by omega), w_two (show i < 9000000000000 by omega)]
 have none : ∀ {A B : Option (List TIns)}, A = some [] → B = some [] → ∃ w, A = some w ∧ B = some w ∧ i + w.length ≤ code.length ∧ w.length ≤ 3 := fun h1 h2 => ⟨[], h1, h2, by simp; omega, by simp⟩
 cases p
 ·exact none rfl rfl
 have hv := hv rfl
 by_cases h1 : ((i + 1 : Nat) : Int) ≥ (code.length : Int)
 ·simp only [if_pos h1, if_true, sb]; exact none rfl rfl
 have h1' : i + 1 < code.length := by omega
 simp only [if_neg h1, if_true, hM (i + 1) h1', hH (i + 1) h1', idx_nat h1', sb]
 cases T ((i + 1 : Nat) : Int)
 case true => exact none rfl rfl
 simp only [if_neg Bool.false_ne_true, sb]
 have hy := hI _ (List.getElem_mem h1')
 generalize code[i + 1] = y at hy ⊢
 have two : ∀ {A B : Option (List TIns)} {x z : TIns}, A = some [x, z] → B = some [x, z] → ∃ w, A = some w ∧ B = some w ∧ i + w.length ≤ code.length ∧ w.length ≤ 3 := fun h1 h2 => ⟨_, h1, h2, by simp; omega, by simp⟩
 obtain ⟨v', p', ip', sp', hv'⟩ := push_sc hy
 simp only [iTB, sTB, iBV, sBV, ip', sp', sb, tv_eta]
 by_cases o10 : y.fOp = 10
 ·simp only [o10]; exact two rfl rfl
 by_cases o28 : y.fOp = 28
 ·simp only [o28]
  cases tb v <;> exact two rfl rfl
 by_cases o29 : y.fOp = 29
 ·simp only [o29]
  by_cases k : v.fKind = 0
  ·simp only [k]; exact two rfl rfl
  ·simp only [if_neg k, sb]; exact two rfl rfl
 by_cases o13 : y.fOp = 13
 ·obtain ⟨z, c, iz, sz⟩ := of_eq (bv (tb v))
  have hc : c = true := by
   have : m_i_PushOf (bv (tb v)) = some ((TIns.mk 4 (W64 (1 + bn (tb (bv (tb v))))) 0 [] []), true) := by
    unfold m_i_PushOf
    rw [iTB, sb, iBN, sb]; rfl
   rw [iz] at this
   injection this with this
   exact congrArg Prod.snd this
  have n11 : ¬ y.fOp = 11 := by omega
  simp only [if_neg o10, if_neg o28, if_neg o29, if_pos o13, if_neg n11, iz, sz, hc, sb, tv_eta, if_true]
  exact two rfl rfl
 by_cases o11 : y.fOp = 11
 ·obtain ⟨r, e, ir, sr⟩ := un_eq y.fA hv
  obtain ⟨z, c, iz, sz⟩ := of_eq r
  have hp : p' = false := by
   have : m_i_PushValue y = some ((TValue.mk 0 0 [] 0 []), false) := by unfold m_i_PushValue; rw [o11]; rfl
   rw [ip'] at this
   injection this with this
   exact congrArg Prod.snd this
  simp only [if_neg o10, if_neg o28, if_neg o29, if_neg o13, if_pos o11, ir, sr, iz, sz, hp, sb, tv_eta, if_neg Bool.false_ne_true]
  cases c
  ·by_cases he : e = 0
   ·simp only [he]; exact none rfl rfl
   ·simp only [if_neg he, sb]; exact none rfl rfl
  ·by_cases he : e = 0
   ·simp only [he]; exact two rfl rfl
   ·simp only [if_neg he, sb]; exact none rfl rfl
 simp only [if_neg o10, if_neg o28, if_neg o29, if_neg o13, if_neg o11, sb]
 cases p'
 ·exact none rfl rfl
 have hv' := hv' rfl
 by_cases h2 : ((i + 2 : Nat) : Int) ≥ (code.length : Int)
 ·simp only [if_pos h2, if_true, sb]; exact none rfl rfl
 have h2' : i + 2 < code.length := by omega
 simp only [if_neg h2, if_true, hM (i + 2) h2', hH (i + 2) h2', idx_nat h2', sb]
 cases T ((i + 2 : Nat) : Int)
 case true => exact none rfl rfl
 simp only [if_neg Bool.false_ne_true, sb]
 generalize code[i + 2] = u
 by_cases o12 : u.fOp = 12
 ·obtain ⟨r, e, ir, sr⟩ := bin_eq u.fA hv hv'
  obtain ⟨z, c, iz, sz⟩ := of_eq r
  simp only [if_pos o12, ir, sr, iz, sz, sb, tv_eta]
  cases c
  ·by_cases he : e = 0
   ·simp only [he]; exact none rfl rfl
   ·simp only [if_neg he, sb]; exact none rfl rfl
  ·by_cases he : e = 0
   ·simp only [he]; exact ⟨_, rfl, rfl, by simp; omega, by simp⟩
   ·simp only [if_neg he, sb]; exact none rfl rfl
 ·simp only [if_neg o12, sb]; exact none rfl rfl
end Go.Am
set_option linter.unusedVariables false
set_option linter.unusedSimpArgs false
namespace Go.Am
open Go Go.RowKit Go.Proofs
theorem iMax (n : Nat) : m_i_Max 1 (n : Int) = some ((max 1 n : Nat) : Int) := by
 unfold m_i_Max
 by_cases h : (n : Int) > 1
 ·rw [if_pos h]; congr 1; omega
 ·rw [if_neg h]; congr 1; omega
theorem sMax (n : Nat) : m_s_Max 1 (n : Int) = some ((max 1 n : Nat) : Int) := iMax n
theorem lcopy_at {α : Type} (l s : List α) (off j : Nat) : (lcopy l off s)[j]? = if off ≤ j ∧ j < off + s.length ∧ j < l.length then s[j - off]? else l[j]? := by
 unfold lcopy
 rw [List.getElem?_mapIdx]
 by_cases hj : j < l.length
 ·rw [List.getElem?_eq_getElem hj, Option.map_some]
  by_cases h1 : j < off
  ·rw [if_pos h1, if_neg (by omega)]
  ·by_cases h2 : j < off + s.length
   ·rw [if_neg h1, if_pos h2, if_pos ⟨by omega, h2, hj⟩, List.getD_eq_getElem?_getD, List.getElem?_eq_getElem (by omega)]; rfl
   ·rw [if_neg h1, if_neg h2, if_neg (by omega)]
 ·rw [if_neg (by omega), List.getElem?_eq_none (by omega)]; rfl
theorem lay_go (w : List TIns) (i : Nat) (hi : i ≤ 2000000) (hw : w.length ≤ 100) : ∀ (f k : Nat) (l : List TIns), w.length ≤ k + f → k ≤ w.length → i + w.length ≤ l.length →
  m_s_FoldCode_L14 w (i : Int) l (k : Int) = some (lcopy l (i + k) (w.drop k))
 | f, k, l, hf, hk, hl => by
  rw [m_s_FoldCode_L14]
  by_cases hc : k < w.length
  ·obtain ⟨g, rfl⟩ : ∃ g, f = g + 1 := ⟨f - 1, by omega⟩
   have e : W64 ((i : Int) + (k : Int)) = ((i + k : Nat) : Int) := w_nat (by omega) (by omega)
   rw [if_pos (by omega), idx_nat hc, sb, e, idx_nat (by omega), sb, w_succ (by omega), Int.toNat_natCast, lay_go w i hi hw g (k + 1) _ (by omega) (by omega) (by simpa using hl)]
   congr 1
   refine List.ext_getElem? fun j => ?_
   rw [lcopy_at, lcopy_at, List.length_set, List.length_drop, List.length_drop]
   by_cases q : j = i + k
   ·subst q
    rw [if_neg (by omega), if_pos ⟨by omega, by omega, by omega⟩, List.getElem?_set_self (by omega), List.getElem?_drop, show k + (i + k - (i + k)) = k by omega, List.getElem?_eq_getElem hc]
   ·by_cases q2 : i + (k + 1) ≤ j ∧ j < i + (k + 1) + (w.length - (k + 1)) ∧ j < l.length
    ·rw [if_pos q2, if_pos ⟨by omega, by omega, by omega⟩, List.getElem?_drop, List.getElem?_drop, show k + 1 + (j - (i + (k + 1))) = k + (j - (i + k)) by omega]
    ·rw [if_neg q2, if_neg (by omega), List.getElem?_set_ne (fun h => q h.symm)]
  ·rw [if_neg (by omega), List.drop_eq_nil_of_le (by omega)]
   congr 1
   refine List.ext_getElem? fun j => ?_
   rw [lcopy_at, if_neg (by simp; omega)]
section
variable (a : TFunc) (hn : a.fCode.length ≤ 2000000) (hI : ∀ x ∈ a.fCode, insB x (a.fSlots.length : Int) (a.fCode.length : Int) = true) (M : List (Int × Bool)) (H : List Bool) (T : Int → Bool)
  (hM : ∀ j : Nat, j < a.fCode.length → mgd M (j : Int) false = T j) (hH : ∀ j : Nat, j < a.fCode.length → idx H (j : Int) = some (T j))
include hn hI hM hH
theorem fold_go : ∀ (f k : Nat) (l : List TIns), a.fCode.length ≤ k + f → k ≤ a.fCode.length → l.length = a.fCode.length →
  ∃ R, m_i_FoldCode_L2 a M l (k : Int) = some R ∧ m_s_FoldCode_L12 a H l (k : Int) = some R ∧ R.length = a.fCode.length
 | f, k, l, hf, hk, hl => by
  rw [m_i_FoldCode_L2, m_s_FoldCode_L12]
  by_cases hc : k < a.fCode.length
  ·obtain ⟨g, rfl⟩ : ∃ g, f = g + 1 := ⟨f - 1, by omega⟩
   obtain ⟨w, ei, es, h1, h2⟩ := window_eq a.fCode _ hn hI M H T hM hH k hc
   have e1 : lfrom l (k : Int) = some (l.drop k) := by unfold lfrom; rw [if_pos ⟨by omega, by omega⟩]; rfl
   have e2 : must (w.length ≤ (l.drop k).length) = some () := if_pos (by rw [List.length_drop]; omega)
   have e3 : W64 ((k : Int) + ((max 1 w.length : Nat) : Int)) = ((k + max 1 w.length : Nat) : Int) := w_nat (by omega) (by omega)
   have e4 := lay_go w k (by omega) (by omega) w.length 0 l (by omega) (by omega) (by omega)
   rw [show ((0 : Nat) : Int) = 0 from rfl, List.drop_zero, Nat.add_zero] at e4
   rw [if_pos (by omega), if_pos (by omega), ei, es, sb, sb, e1, sb, e2, sb, iMax, sb, e4, sb, sMax, sb, e3, Int.toNat_natCast, Nat.zero_add]
   exact fold_go g (k + max 1 w.length) _ (by omega) (by omega) (by rw [lcopy_len]; exact hl)
  ·rw [if_neg (by omega), if_neg (by omega)]; exact ⟨l, rfl, rfl, hl⟩
end
theorem fold_code (a : TFunc) (ha : Fits a) : ∃ w, m_i_FoldCode a = some w ∧ m_s_FoldCode a = some w ∧ Fits w := by
 unfold m_i_FoldCode m_s_FoldCode
 obtain ⟨v1, i1, s1, f1⟩ := isFunc_fits a ha
 rw [iCopy_eq a ha, sCopy_eq a ha, sb, sb, i1, s1, sb, sb]
 cases v1
 ·rw [if_neg (by simp), if_neg (by simp)]; exact ⟨_, rfl, rfl, ha⟩
 ·obtain ⟨_, eH, _, _, _⟩ := f1 rfl
  have hI := heights_ins a ha.code eH
  obtain ⟨M, eM, hM⟩ := iSet a ha.code
  obtain ⟨H, eH, hH⟩ := sHit a ha.code
  obtain ⟨R, e1, e2, hR⟩ := fold_go a ha.code hI M H (isT a.fCode) hM hH a.fCode.length 0 a.fCode (by omega) (by omega) rfl
  rw [show ((0 : Nat) : Int) = 0 from rfl] at e1 e2
  rw [if_pos rfl, if_pos rfl, eM, eH, sb, sb, e1, e2, sb]
  exact ⟨_, rfl, rfl, ⟨by show R.length ≤ 2000000; rw [hR]; exact ha.code, ha.slots, ha.params, ha.uses, ha.name⟩⟩
theorem gC_at' (l : List TIns) (i : Nat) (h : i < l.length) : gC l i = l[i] := gC_at h
theorem eqI (a b : List TIns) (hn : a.length ≤ 2000000) : m_EqualI a b = some (decide (a = b)) := by
 unfold m_EqualI
 by_cases hl : a.length = b.length
 ·rw [if_pos (by omega), ← allN_eq gC_at' hl]
  have : m_EqualI_L2 a b 0 = some (if allN (fun k => decide (gC a k = gC b k)) 0 a.length = true then .inl () else .inr false) := by
   refine loop_all0 (L := m_EqualI_L2 a b) _ _ (fun k hk => ?_) (by rw [m_EqualI_L2, if_neg (by omega)])
   rw [m_EqualI_L2, if_pos (by omega), idx_gC hk, sb, idx_gC (by omega), sb, w_succ (by omega)]
   exact ⟨fun h => by rw [if_pos (by simpa using h)], fun h => by rw [if_neg (by simpa using h)]⟩
  rw [this, sb]
  cases allN (fun k => decide (gC a k = gC b k)) 0 a.length <;> rfl
 ·rw [if_neg (by omega), decide_eq_false (fun h => hl (by rw [h]))]
theorem same_go (a1 : TFunc) (w : List TIns) (i : Nat) (hi : i ≤ 2000000) (hw : w.length ≤ 100) (hl : i + w.length ≤ a1.fCode.length) : ∀ (f k : Nat) (b : Bool), w.length ≤ k + f → k ≤ w.length →
  m_s_CheckFold_L10 a1 w (i : Int) b (k : Int) = some (b && decide (w.drop k = (a1.fCode.drop (i + k)).take (w.length - k)))
 | f, k, b, hf, hk => by
  rw [m_s_CheckFold_L10]
  by_cases hc : k < w.length
  ·obtain ⟨g, rfl⟩ : ∃ g, f = g + 1 := ⟨f - 1, by omega⟩
   have e : W64 ((i : Int) + (k : Int)) = ((i + k : Nat) : Int) := w_nat (by omega) (by omega)
   have hd : (a1.fCode.drop (i + k)).take (w.length - k) = a1.fCode[i + k] :: (a1.fCode.drop (i + (k + 1))).take (w.length - (k + 1)) := by
    rw [List.drop_eq_getElem_cons (show i + k < a1.fCode.length by omega), show w.length - k = w.length - (k + 1) + 1 by omega, List.take_succ_cons]; rfl
   rw [if_pos (by omega), e, idx_nat (show i + k < a1.fCode.length by omega), w_succ (by omega), hd, List.drop_eq_getElem_cons hc]
   cases b
   ·rw [if_neg (by simp), same_go a1 w i hi hw hl g (k + 1) _ (by omega) (by omega)]; rfl
   ·rw [if_pos rfl, sb, idx_nat hc, sb, same_go a1 w i hi hw hl g (k + 1) _ (by omega) (by omega), Bool.true_and]
    congr 1
    rw [Bool.eq_iff_iff, Bool.and_eq_true, decide_eq_true_iff, decide_eq_true_iff, decide_eq_true_iff, List.cons.injEq]
    exact ⟨fun h => ⟨h.1.symm, h.2⟩, fun h => ⟨h.1.symm, h.2⟩⟩
  ·rw [if_neg (by omega), List.drop_eq_nil_of_le (by omega), show w.length - k = 0 by omega, List.take_zero, decide_eq_true rfl, Bool.and_true]
section
variable (a b : TFunc) (hn : a.fCode.length ≤ 2000000) (hl : a.fCode.length = b.fCode.length) (hI : ∀ x ∈ a.fCode, insB x (a.fSlots.length : Int) (a.fCode.length : Int) = true) (M : List (Int × Bool)) (H : List Bool) (T : Int → Bool)
  (hM : ∀ j : Nat, j < a.fCode.length → mgd M (j : Int) false = T j) (hH : ∀ j : Nat, j < a.fCode.length → idx H (j : Int) = some (T j))
include hn hl hI hM hH
theorem chk_go : ∀ (f k : Nat), a.fCode.length ≤ k + f → k ≤ a.fCode.length →
  ∃ o, m_i_CheckFold_L2 a b M (k : Int) = some o ∧ m_s_CheckFold_L8 a b H (k : Int) = some o
 | f, k, hf, hk => by
  rw [m_i_CheckFold_L2, m_s_CheckFold_L8]
  by_cases hc : k < a.fCode.length
  ·obtain ⟨g, rfl⟩ : ∃ g, f = g + 1 := ⟨f - 1, by omega⟩
   obtain ⟨w, ei, es, h1, h2⟩ := window_eq a.fCode _ hn hI M H T hM hH k hc
   have e4 := same_go b w k (by omega) (by omega) (by omega) w.length 0 (decide ((w.length : Int) > 0)) (by omega) (by omega)
   rw [show ((0 : Nat) : Int) = 0 from rfl, List.drop_zero, Nat.add_zero, Nat.sub_zero] at e4
   have e3 : W64 ((k : Int) + (w.length : Int)) = ((k + w.length : Nat) : Int) := w_nat (by omega) (by omega)
   have e5 : lsub b.fCode (k : Int) ((k + w.length : Nat) : Int) = some ((b.fCode.drop k).take w.length) := by
    unfold lsub
    rw [if_pos ⟨by omega, by omega, by omega⟩, Int.toNat_natCast, Int.toNat_natCast, List.drop_take, show k + w.length - k = w.length by omega]
   rw [if_pos (by omega), if_pos (by omega), ei, es, sb, sb, e4, sb, e3, e5, sb, eqI _ _ (by omega), sb, idx_nat hc, sb, idx_nat (show k < b.fCode.length by omega), sb, sb, sb, w_succ (by omega)]
   by_cases hw : (w.length : Int) > 0
   ·rw [if_pos hw, decide_eq_true hw, Bool.true_and]
    by_cases he : w = (b.fCode.drop k).take w.length
    ·rw [if_pos (decide_eq_true he), if_pos (decide_eq_true he)]
     obtain ⟨o, q1, q2⟩ := chk_go g (k + w.length) (by omega) (by omega)
     rw [q1, q2]; exact ⟨_, rfl, rfl⟩
    ·rw [if_neg (fun h => he (of_decide_eq_true h)), if_neg (fun h => he (of_decide_eq_true h)), sb]
     dsimp only
     by_cases hx : a.fCode[k] = b.fCode[k]'(by omega)
     ·rw [if_pos hx, if_pos hx.symm]
      exact chk_go g (k + 1) (by omega) (by omega)
     ·rw [if_neg hx, if_neg (fun h => hx h.symm)]; exact ⟨_, rfl, rfl⟩
   ·rw [if_neg hw, decide_eq_false hw, Bool.false_and, if_neg Bool.false_ne_true, sb]
    dsimp only
    by_cases hx : a.fCode[k] = b.fCode[k]'(by omega)
    ·rw [if_pos hx, if_pos hx.symm]
     exact chk_go g (k + 1) (by omega) (by omega)
    ·rw [if_neg hx, if_neg (fun h => hx h.symm)]; exact ⟨_, rfl, rfl⟩
  ·rw [if_neg (by omega), if_neg (by omega)]; exact ⟨_, rfl, rfl⟩
end
theorem check_fold (a b : TFunc) (ha : Fits a) (hb : Fits b) : ∃ v, m_i_CheckFold a b = some v ∧ m_s_CheckFold a b = some v := by
 unfold m_i_CheckFold m_s_CheckFold
 obtain ⟨v1, i1, s1, f1⟩ := isFunc_fits a ha
 obtain ⟨v2, i2, s2, f2⟩ := isFunc_fits b hb
 obtain ⟨v3, i3, s3⟩ := agree_eq a b ha
 refine three i1 i2 i3 s1 s2 s3 fun q1 q2 q3 => ?_
 by_cases hl : a.fCode.length = b.fCode.length
 ·obtain ⟨_, eH, _, _, _⟩ := f1 q1
  have hI := heights_ins a ha.code eH
  obtain ⟨M, eM, hM⟩ := iSet a ha.code
  obtain ⟨H, eH, hH⟩ := sHit a ha.code
  obtain ⟨o, e1, e2⟩ := chk_go a b ha.code hl hI M H (isT a.fCode) hM hH a.fCode.length 0 (by omega) (by omega)
  rw [show ((0 : Nat) : Int) = 0 from rfl] at e1 e2
  rw [if_pos (by omega), if_pos (by omega), eM, eH, sb, sb, e1, e2, sb]
  cases o <;> exact ⟨_, rfl, rfl⟩
 ·rw [if_neg (by omega), if_neg (by omega)]; exact ⟨_, rfl, rfl⟩
theorem tf_eta (a : TFunc) : TFunc.mk a.fName a.fParams a.fUses a.fSlots a.fGen a.fCode = a := rfl
theorem opt_go (a0 : TFunc) (h0 : m_s_IsFunc a0 = some true) : ∀ (f y : Nat) (a : TFunc), 4 ≤ y + f → y ≤ 4 → Fits a → ∃ r : TFunc, Fits r ∧
  m_i_OptimizeFunc_L2 a.fName a.fGen a.fParams a.fUses a.fSlots a.fCode (y : Int) = some (r.fName, r.fGen, r.fParams, r.fUses, r.fSlots, r.fCode) ∧
  m_s_OptimizeFunc_L2 a0 a.fName a.fParams a.fUses a.fSlots a.fGen a.fCode (y : Int) = some (r.fName, r.fParams, r.fUses, r.fSlots, r.fGen, r.fCode)
 | f, y, a, hf, hy, ha => by
  rw [m_i_OptimizeFunc_L2, m_s_OptimizeFunc_L2]
  by_cases hc : y < 4
  ·obtain ⟨g, rfl⟩ : ∃ g, f = g + 1 := ⟨f - 1, by omega⟩
   obtain ⟨w1, i1, s1, g1⟩ := fold_code a ha
   obtain ⟨w2, i2, s2, g2⟩ := thread_code w1 g1
   obtain ⟨w3, K, i3, s3, g3, _⟩ := drop_code w2 g2
   rw [if_pos (by omega), if_pos (by omega), h0, sb, if_pos rfl, tf_eta, i1, s1, sb, sb, i2, s2, sb, sb, i3, s3, sb, sb, w_succ (by omega)]
   exact opt_go a0 h0 g (y + 1) w3 (by omega) (by omega) g3
  ·rw [if_neg (by omega), if_neg (by omega)]; exact ⟨a, ha, rfl, rfl⟩
theorem optimize_func (a : TFunc) (ha : Fits a) : ∃ w, m_i_OptimizeFunc a = some w ∧ m_s_OptimizeFunc a = some w ∧ Fits w := by
 unfold m_i_OptimizeFunc m_s_OptimizeFunc
 obtain ⟨v1, i1, s1, _⟩ := isFunc_fits a ha
 rw [iCopy_eq a ha, sCopy_eq a ha, sb, sb, i1, sb]
 cases v1
 ·have e : m_s_OptimizeFunc_L2 a a.fName a.fParams a.fUses a.fSlots a.fGen a.fCode 0 = some (a.fName, a.fParams, a.fUses, a.fSlots, a.fGen, a.fCode) := by
   rw [m_s_OptimizeFunc_L2, if_pos (by omega), s1, sb, if_neg (by simp)]
  rw [if_neg (by simp), e, sb]
  exact ⟨_, rfl, rfl, ha⟩
 ·obtain ⟨r, hr, e1, e2⟩ := opt_go a s1 4 0 a (by omega) (by omega) ha
  rw [show ((0 : Nat) : Int) = 0 from rfl] at e1 e2
  rw [if_pos rfl, e1, e2, sb, sb]
  exact ⟨_, rfl, rfl, hr⟩
end Go.Am
set_option linter.unusedVariables false
set_option linter.unusedSimpArgs false
namespace Go.Am
open Go Go.RowKit Go.Proofs
theorem law_checkFold (a b : TFunc) (ha : a.Ok) (hb : b.Ok) : m_l_FnExactCheckFold a b = some true := by
 unfold m_l_FnExactCheckFold
 obtain ⟨v1, e1, c1⟩ := szFunc_eq a ha 1048576 (by omega) (by omega)
 rw [e1, sb]
 rcases c1 with rfl | ⟨p1, p2, fa⟩
 ·rw [if_pos (by omega)]
 rw [if_neg (by omega)]
 obtain ⟨v2, e2, c2⟩ := szFunc_eq b hb v1 p1 (by omega)
 rw [e2, sb]
 rcases c2 with rfl | ⟨q1, q2, fb⟩
 ·rw [if_pos (by omega)]
 rw [if_neg (by omega)]
 obtain ⟨v, hi, hs⟩ := check_fold a b fa fb
 simp only [toFunc_eq a fa, toFunc_eq b fb, sb, hs, hi, if_true, eqFunc_self a fa, eqFunc_self b fb]
theorem mkN_pos (a : TFunc) (y : Int) (h : 0 ≤ y) : 0 ≤ mkN a y := by unfold mkN; omega
theorem law_foldCode (a : TFunc) (ha : a.Ok) : m_l_FnExactFoldCode a = some true := by
 unfold m_l_FnExactFoldCode
 obtain ⟨v1, e1, c1⟩ := szFunc_eq a ha 1048576 (by omega) (by omega)
 rw [e1, sb]
 rcases c1 with rfl | ⟨p1, p2, fa⟩
 ·rw [if_pos (by omega)]
 rw [if_neg (by omega)]
 obtain ⟨w, hi, hs, fw⟩ := fold_code a fa
 have em := mkN_pos a 1 (by omega)
 have ew := mkN_pos w 1 (by omega)
 have hh : TFunc.mk w.fName (mkF w 1).fParams (mkF w 1).fUses (mkF w 1).fSlots w.fGen (mkF w 1).fCode = mkF w 1 := rfl
 simp only [toFunc_eq a fa, sb, hs, hi, eqFunc_self w fw, eqFunc_self a fa, if_true, markFunc_eq a fa 1 (by omega) (by omega), markFunc_eq w fw 1 (by omega) (by omega), hh, heldFunc_eq w fw 1 (by omega) (by omega)]
 repeat rw [if_neg (by omega)]
theorem law_optimizeFunc (a : TFunc) (ha : a.Ok) : m_l_FnExactOptimizeFunc a = some true := by
 unfold m_l_FnExactOptimizeFunc
 obtain ⟨v1, e1, c1⟩ := szFunc_eq a ha 1048576 (by omega) (by omega)
 rw [e1, sb]
 rcases c1 with rfl | ⟨p1, p2, fa⟩
 ·rw [if_pos (by omega)]
 rw [if_neg (by omega)]
 obtain ⟨w, hi, hs, fw⟩ := optimize_func a fa
 have em := mkN_pos a 1 (by omega)
 have ew := mkN_pos w 1 (by omega)
 have hh : TFunc.mk w.fName (mkF w 1).fParams (mkF w 1).fUses (mkF w 1).fSlots w.fGen (mkF w 1).fCode = mkF w 1 := rfl
 simp only [toFunc_eq a fa, sb, hs, hi, eqFunc_self w fw, eqFunc_self a fa, if_true, markFunc_eq a fa 1 (by omega) (by omega), markFunc_eq w fw 1 (by omega) (by omega), hh, heldFunc_eq w fw 1 (by omega) (by omega)]
 repeat rw [if_neg (by omega)]
theorem law_checkFoldA (a b : TFunc) (ha : a.Ok) (hb : b.Ok) : ACall Tryz.prog 3 [.agg a.cells, .agg b.cells] [] (fun res _ => res = .bool true) :=
 (ok_l_FnExactCheckFold (law_checkFold a b ha hb)).mono (fun _ _ h => h.1)
theorem law_foldCodeA (a : TFunc) (ha : a.Ok) : ACall Tryz.prog 4 [.agg a.cells] [] (fun res _ => res = .bool true) :=
 (ok_l_FnExactFoldCode (law_foldCode a ha)).mono (fun _ _ h => h.1)
theorem law_optimizeFuncA (a : TFunc) (ha : a.Ok) : ACall Tryz.prog 5 [.agg a.cells] [] (fun res _ => res = .bool true) :=
 (ok_l_FnExactOptimizeFunc (law_optimizeFunc a ha)).mono (fun _ _ h => h.1)
end Go.Am
