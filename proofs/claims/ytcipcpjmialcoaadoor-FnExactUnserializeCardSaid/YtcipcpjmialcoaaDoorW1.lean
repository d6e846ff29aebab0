/- The plain law, first part: numerals. -/
import Derived.Test.YtcipcpjmialcoaaDoorF2
import Derived.Test.YtcipcpjmialcoaaDoorL1
import Derived.Lib.AtoiTie
set_option linter.unusedVariables false
set_option linter.unusedSimpArgs false
namespace Go.Am
open Go Go.RowKit Go.Proofs
theorem sb {α β : Type} (a : α) (f : α → Option β) : (some a >>= f) = f a := rfl
theorem sidx_nat {s : Str} {i : Nat} (h : i < s.length) : sidx s (i : Int) = some (s.getD i 0) := by
 unfold sidx; rw [if_pos ⟨by omega, by omega⟩]; rfl
theorem idx_nat {α : Type} [Inhabited α] {l : List α} {i : Nat} (h : i < l.length) : idx l (i : Int) = some l[i] := by
 unfold idx; rw [if_pos ⟨by omega, by omega⟩]
 simp [List.getD_eq_getElem?_getD, h]
theorem w_nat {x : Int} {n : Nat} (h : x = (n : Int)) (hn : n ≤ 9223372036854775807) : W64 x = (n : Int) := by
 subst h; exact w64 (by omega) (by omega)
theorem w_succ {i : Nat} (h : i < 9223372036854775807) : W64 ((i : Int) + 1) = ((i + 1 : Nat) : Int) := w_nat (by omega) (by omega)
theorem lapp_eq {α : Type} {b : Nat} {l m : List α} (h : (l.length + m.length) * b ≤ 140737488355328) : lapp b l m = some (l ++ m) := if_pos h
theorem m53_eq (a b c : Int) : m53 a b c = some (decide (b ≤ a ∧ a ≤ c)) := by
 unfold m53
 by_cases h : a ≥ b
 ·rw [if_pos h]; congr 1; simp; omega
 ·rw [if_neg h]; congr 1; symm; rw [decide_eq_false_iff_not]; omega
theorem nDig_le : ∀ (k u : Nat), u < 10 ^ (k + 1) → Lib.nDigits u ≤ k + 1
 | 0, u, h => by rw [Lib.nDigits_small (by simpa using h)]; exact Nat.le_refl _
 | k + 1, u, h => by
  by_cases h1 : u < 10
  ·rw [Lib.nDigits_small h1]; omega
  ·rw [Lib.nDigits_big h1]
   have := nDig_le k (u / 10) (by rw [Nat.pow_succ] at h; omega)
   omega
theorem decDigits_step (u : Nat) : Lib.decDigits u = (if u / 10 = 0 then [] else Lib.decDigits (u / 10)) ++ [UInt8.ofNat (48 + u % 10)] := by
 by_cases h : u < 10
 ·rw [if_pos (by omega), Lib.decDigits, dif_pos h, show u % 10 = u by omega]; rfl
 ·rw [if_neg (by omega)]
  conv => lhs; rw [Lib.decDigits, dif_neg h]
theorem m94_go : ∀ (k : Nat) (out : Str) (m : Int), m.natAbs < 10 ^ k → -9223372036854775808 ≤ m → m ≤ 9223372036854775807 → k + out.length ≤ 1000 →
  m94_L2 out m = some ((if m = 0 then [] else Lib.decDigits m.natAbs) ++ out)
 | 0, out, m, h, _, _, _ => by
  have : m = 0 := by simp at h; exact h
  subst this
  rw [m94_L2, if_pos rfl, if_pos rfl]; rfl
 | k + 1, out, m, h, h0, h1, ho => by
  rw [m94_L2]
  by_cases hm : m = 0
  ·rw [if_pos hm, if_pos hm]; rfl
  rw [if_neg hm, if_neg hm]
  have ab : (m.tmod 10).natAbs = m.natAbs % 10 := Int.natAbs_tmod m 10
  have ad : (m.tdiv 10).natAbs = m.natAbs / 10 := Int.natAbs_tdiv m 10
  have dv : W64 (m.tdiv 10) = m.tdiv 10 := by rw [W64, w64] <;> omega
  have fin : ∀ d : Int, d = ((m.natAbs % 10 : Nat) : Int) → UInt8.ofNat (IntKind.u8.wrap (W64 (48 + d))).toNat = UInt8.ofNat (48 + m.natAbs % 10) := fun d hd => by
   subst hd
   rw [W64, w64 (by omega) (by omega), IntKind.wrap_u8]
   congr 1
   omega
  have next : m94_L2 ([UInt8.ofNat (48 + m.natAbs % 10)] ++ out) (W64 (m.tdiv 10)) = some (Lib.decDigits m.natAbs ++ out) := by
   rw [dv, m94_go k _ _ (by rw [Nat.pow_succ] at h; omega) (by omega) (by omega) (by simp; omega), decDigits_step m.natAbs, ad, List.append_assoc]
   by_cases h : m.tdiv 10 = 0
   ·rw [if_pos h, if_pos (by omega)]
   ·rw [if_neg h, if_neg (by omega)]
  have hs : ∀ b : UInt8, scat [b] out = some ([b] ++ out) := fun b => if_pos (by simp; omega)
  by_cases hn : m.tmod 10 < 0
  ·rw [if_pos hn, hs, sb, fin _ (by rw [W64, w64] <;> omega), next]
  ·rw [if_neg hn, hs, sb, fin _ (by omega), next]
theorem m94_eq (n : Int) (h0 : -9223372036854775808 ≤ n) (h1 : n ≤ 9223372036854775807) : m94 n = some (Lib.itoa n) := by
 unfold m94
 by_cases h : n = 0
 ·subst h; rw [if_pos rfl, show Lib.itoa 0 = [48] by decide +kernel]
 rw [if_neg h, m94_go 20 [] n (by simp only [Nat.reducePow]; omega) h0 h1 (by simp), sb, if_neg h, List.append_nil]
 unfold Lib.itoa
 have hL : (Lib.decDigits n.natAbs).length ≤ 20 := by rw [Lib.decDigits_length]; exact nDig_le 19 _ (by simp only [Nat.reduceAdd, Nat.reducePow]; omega)
 by_cases hn : n < 0
 ·rw [if_pos hn, if_pos hn, scat, if_pos (by simp; omega)]; rfl
 ·rw [if_neg hn, if_neg hn, show n.natAbs = n.toNat by omega]
def piOf (s : List UInt8) : Option Nat → Option Nat
 | some v => if v ≤ 1000000000000 ∧ Lib.decDigits v = s then some v else none
 | none => none
def parseI (s : List UInt8) : Option Nat := if 1 ≤ s.length ∧ s.length ≤ 13 then piOf s (Lib.decFrom 0 s) else none
theorem decFrom_cons {v : Nat} {c : UInt8} {r : List UInt8} (h : 48 ≤ c.toNat ∧ c.toNat ≤ 57) : Lib.decFrom v (c :: r) = Lib.decFrom (v * 10 + (c.toNat - 48)) r := by
 show (match Lib.digitVal c with | some d => Lib.decFrom (v * 10 + d) r | none => none) = _
 rw [Lib.digitVal, if_pos h]
theorem decFrom_bad {v : Nat} {c : UInt8} {r : List UInt8} (h : ¬ (48 ≤ c.toNat ∧ c.toNat ≤ 57)) : Lib.decFrom v (c :: r) = none := by
 show (match Lib.digitVal c with | some d => Lib.decFrom (v * 10 + d) r | none => none) = _
 rw [Lib.digitVal, if_neg h]
theorem drop_cons {s : Str} {i : Nat} (h : i < s.length) : s.drop i = s.getD i 0 :: s.drop (i + 1) := by
 rw [List.drop_eq_getElem_cons h, List.getD_eq_getElem?_getD]; simp [h]
theorem m61_go (s : Str) (hs : s.length ≤ 13) : ∀ (n i v : Nat), i ≤ s.length → s.length - i = n → v < 10 ^ i →
  m61_L2 s (v : Int) (i : Int) = some (match Lib.decFrom v (s.drop i) with | some u => .inl (u : Int) | none => .inr (0, false))
 | 0, i, v, hi, hn, hv => by
  have e : i = s.length := by omega
  rw [m61_L2, if_neg (by omega), e, List.drop_length]; rfl
 | n + 1, i, v, hi, hn, hv => by
  have hl : i < s.length := by omega
  have hv13 : v < 10000000000000 := Nat.lt_of_lt_of_le hv (Nat.pow_le_pow_right (by decide) (show i ≤ 13 by omega))
  have hc := (s.getD i 0).toNat_lt
  rw [m61_L2, if_pos (by omega), sidx_nat hl, sb, m53_eq, sb, W64, w64 (by omega) (by omega), drop_cons hl]
  by_cases hd : 48 ≤ (s.getD i 0).toNat ∧ (s.getD i 0).toNat ≤ 57
  ·rw [if_pos (by rw [decide_eq_true_eq]; omega), sb, decFrom_cons hd]
   have e1 : IntKind.u8.wrap (((s.getD i 0).toNat : Int) - 48) = (((s.getD i 0).toNat - 48 : Nat) : Int) := by rw [IntKind.wrap_u8]; omega
   have e2 : IntKind.i64.wrap (IntKind.i64.wrap (10 * (v : Int)) + IntKind.i64.wrap (IntKind.u8.wrap (((s.getD i 0).toNat : Int) - 48))) = ((v * 10 + ((s.getD i 0).toNat - 48) : Nat) : Int) := by
    rw [e1, w64 (x := 10 * (v : Int)) (by omega) (by omega), w64 (x := (((s.getD i 0).toNat - 48 : Nat) : Int)) (by omega) (by omega), w64 (by omega) (by omega)]
    omega
   rw [W64, W64, W64, e2, w_succ (by omega), m61_go s hs n (i + 1) _ (by omega) (by omega) (by rw [Nat.pow_succ]; omega)]
  ·rw [if_neg (by rw [decide_eq_true_eq]; omega), decFrom_bad hd]
def nbW : Option Nat → Int × Bool
 | some v => ((v : Int), true)
 | none => (0, false)
theorem m61_eq (s : Str) : m61 s = some (nbW (parseI s)) := by
 unfold m61 parseI
 rw [m53_eq, sb]
 by_cases h : 1 ≤ s.length ∧ s.length ≤ 13
 ·rw [if_pos (by rw [decide_eq_true_eq]; omega), if_pos h]
  have e := m61_go s h.2 s.length 0 0 (by omega) (by omega) (by simp)
  rw [List.drop_zero] at e
  replace e : m61_L2 s 0 0 = _ := e
  rw [e, sb]
  cases hd : Lib.decFrom 0 s with
  | none => rfl
  | some u =>
   show (if (u : Int) > 1000000000000 then some (0, false) else _) = some (nbW (if u ≤ 1000000000000 ∧ Lib.decDigits u = s then some u else none))
   by_cases h1 : (u : Int) > 1000000000000
   ·rw [if_pos h1, if_neg (by omega)]; rfl
   ·rw [if_neg h1, m94_eq _ (by omega) (by omega), sb, Lib.itoa_nonneg]
    by_cases h2 : Lib.decDigits u = s
    ·rw [if_pos h2, if_pos ⟨by omega, h2⟩]; rfl
    ·rw [if_neg h2, if_neg (fun h => h2 h.2)]; rfl
 ·rw [if_neg (by rw [decide_eq_true_eq]; omega), if_neg h]; rfl
def num9 : Option Nat → Option Int
 | some v => if v ≤ 1000000000 then some (v : Int) else none
 | none => none
def neg9 : Option Nat → Option Int
 | some v => if v ≤ 1000000000 ∧ v ≠ 0 then some (-(v : Int)) else none
 | none => none
def sp (s : Str) : Option Int := if s.head? = some 45 then neg9 (parseI s.tail) else num9 (parseI s)
def nbi : Option Int → Int × Bool
 | some v => (v, true)
 | none => (0, false)
theorem m54_eq (s : Str) : m54 s = some (nbi (sp s)) := by
 unfold m54 sp
 cases s with
 | nil => rw [if_neg (by simp), sb, if_neg (by decide), sb, m61_eq, sb]; rfl
 | cons c r =>
  have e0 : sidx (c :: r) 0 = some c := sidx_nat (s := c :: r) (i := 0) (by simp)
  rw [if_pos (by simp), e0, sb, sb]
  by_cases h : c = 45
  ·subst h
   rw [if_pos (by decide), if_pos (show (45 :: r).head? = some 45 from rfl)]
   have e1 : sfrom (45 :: r) 1 = some r := by unfold sfrom; rw [if_pos ⟨by omega, by simp only [List.length_cons]; omega⟩]; rfl
   rw [e1, sb, sb, m61_eq, sb]
   show (match nbW (parseI r) with | (v15, v16) => _) = some (nbi (neg9 (parseI r)))
   cases hp : parseI r with
   | none => rfl
   | some v =>
    show (if (v : Int) > 1000000000 then some (0, false) else if (UInt8.toNat 45 : Int) == 45 then _ else _) = some (nbi (if v ≤ 1000000000 ∧ v ≠ 0 then some (-(v : Int)) else none))
    by_cases h1 : (v : Int) > 1000000000
    ·rw [if_pos h1, if_neg (by omega)]; rfl
    ·rw [if_neg h1, if_pos (by decide)]
     by_cases h2 : (v : Int) = 0
     ·rw [if_pos h2, if_neg (by omega)]; rfl
     ·rw [if_neg h2, if_pos (by omega)]
      show some (IntKind.i64.wrap (0 - (v : Int)), true) = some ((-(v : Int)), true)
      rw [w64 (by omega) (by omega), Int.zero_sub]
  ·have hb : (((c.toNat : Int) == 45) : Bool) = false := by
    rw [beq_eq_false_iff_ne]
    intro hc
    exact h (UInt8.toNat_inj.1 (show c.toNat = (45 : UInt8).toNat by simp; omega))
   rw [if_neg (by rw [hb]; decide), sb, if_neg (by simpa using h), m61_eq, sb, hb]
   cases hp : parseI (c :: r) with
   | none => rfl
   | some v =>
    show (if (v : Int) > 1000000000 then some (0, false) else if (false = true) then _ else _) = some (nbi (if v ≤ 1000000000 then some (v : Int) else none))
    by_cases h1 : (v : Int) > 1000000000
    ·rw [if_pos h1, if_neg (by omega)]; rfl
    ·rw [if_neg h1, if_neg (by decide), if_pos (by omega)]; rfl
theorem itoa_short {n : Int} (h0 : -1000000000 ≤ n) (h1 : n ≤ 1000000000) : (Lib.itoa n).length ≤ 11 := by
 unfold Lib.itoa
 split
 ·simp only [List.length_cons]
  rw [Lib.decDigits_length]
  have := nDig_le 9 n.natAbs (by simp only [Nat.reduceAdd, Nat.reducePow]; omega)
  omega
 ·rw [Lib.decDigits_length]
  have := nDig_le 9 n.toNat (by simp only [Nat.reduceAdd, Nat.reducePow]; omega)
  omega
theorem itoa_digits {n : Int} (h0 : 0 ≤ n) (h1 : n ≤ 1000000000) : (Lib.decDigits n.toNat).length ≤ 10 := by
 rw [Lib.decDigits_length]
 exact nDig_le 9 n.toNat (by simp only [Nat.reduceAdd, Nat.reducePow]; omega)
def keep (s : Str) (o : Option Int) : Option Int :=
 match o with | some n => if Lib.itoa n = s ∧ (-1000000000 : Int) ≤ n ∧ n ≤ 1000000000 then some n else none | none => none
theorem pw_short (s : Str) (hl : s.length ≤ 18) : pw s (-1000000000) 1000000000 = keep s (Lib.atoi s) := by
 unfold pw keep
 rw [if_neg (by omega), Lib.atoiAll_short s hl]
 cases Lib.atoi s <;> rfl
theorem pw_long (s : Str) (hl : 11 < s.length) : pw s (-1000000000) 1000000000 = none := by
 unfold pw
 split
 ·rfl
 ·split
  ·rw [if_neg]
   intro h
   have := itoa_short h.2.1 h.2.2
   rw [h.1] at this
   omega
  ·rfl
theorem parse_long (s : Str) (hl : 11 < s.length) : num9 (parseI s) = none := by
 unfold parseI
 split
 ·cases Lib.decFrom 0 s with
  | none => rfl
  | some v =>
   show num9 (if v ≤ 1000000000000 ∧ Lib.decDigits v = s then some v else none) = none
   by_cases h : v ≤ 1000000000000 ∧ Lib.decDigits v = s
   ·rw [if_pos h]
    show (if v ≤ 1000000000 then some (v : Int) else none) = none
    rw [if_neg]
    intro hv
    have := itoa_digits (n := (v : Int)) (by omega) (by omega)
    rw [Int.toNat_natCast, h.2] at this
    omega
   ·rw [if_neg h]; rfl
 ·rfl
theorem parse_long' (s : Str) (hl : 10 < s.length) : neg9 (parseI s) = none := by
 unfold parseI
 split
 ·cases Lib.decFrom 0 s with
  | none => rfl
  | some v =>
   show neg9 (if v ≤ 1000000000000 ∧ Lib.decDigits v = s then some v else none) = none
   by_cases h : v ≤ 1000000000000 ∧ Lib.decDigits v = s
   ·rw [if_pos h]
    show (if v ≤ 1000000000 ∧ v ≠ 0 then some (-(v : Int)) else none) = none
    rw [if_neg]
    intro hv
    have := itoa_digits (n := (v : Int)) (by omega) (by omega)
    rw [Int.toNat_natCast, h.2] at this
    omega
   ·rw [if_neg h]; rfl
 ·rfl
theorem dec_none {s : Str} (h : (s.head?.all fun c => decide (48 ≤ c.toNat ∧ c.toNat ≤ 57)) = false) (v : Nat) : Lib.decFrom v s = none := by
 cases s with
 | nil => simp at h
 | cons c r => exact decFrom_bad (by simpa using h)
theorem num_pos (c : UInt8) (r : Str) (hl : (c :: r).length ≤ 11) (h45 : c ≠ 45) (h43 : c ≠ 43) : keep (c :: r) (Lib.atoi (c :: r)) = num9 (parseI (c :: r)) := by
 have ea : Lib.atoi (c :: r) = (Lib.decFrom 0 (c :: r)).map fun (m : Nat) => (m : Int) := by
  show (if c == 45 then _ else if c == 43 then _ else (Lib.decNat (c :: r)).map fun (m : Nat) => (m : Int)) = _
  rw [if_neg (by simpa using h45), if_neg (by simpa using h43)]
  rfl
 have eP : parseI (c :: r) = piOf (c :: r) (Lib.decFrom 0 (c :: r)) := by unfold parseI; rw [if_pos ⟨by simp, by omega⟩]
 rw [ea, eP]
 cases hd : Lib.decFrom 0 (c :: r) with
 | none => rfl
 | some v =>
  show (if Lib.itoa (v : Int) = c :: r ∧ (-1000000000 : Int) ≤ v ∧ (v : Int) ≤ 1000000000 then some (v : Int) else none) = num9 (if v ≤ 1000000000000 ∧ Lib.decDigits v = c :: r then some v else none)
  rw [Lib.itoa_nonneg]
  by_cases h2 : Lib.decDigits v = c :: r
  ·by_cases h3 : v ≤ 1000000000
   ·rw [if_pos ⟨h2, by omega, by omega⟩, if_pos ⟨by omega, h2⟩]
    show _ = if v ≤ 1000000000 then some (v : Int) else none
    rw [if_pos h3]
   ·rw [if_neg (fun h => h3 (by have := h.2.2; omega))]
    by_cases h4 : v ≤ 1000000000000
    ·rw [if_pos ⟨h4, h2⟩]
     show _ = if v ≤ 1000000000 then some (v : Int) else none
     rw [if_neg h3]
    ·rw [if_neg (fun h => h4 h.1)]; rfl
  ·rw [if_neg (fun h => h2 h.1), if_neg (fun h => h2 h.2)]; rfl
theorem head_digits (u : Nat) : ∀ c r, Lib.decDigits u = c :: r → 48 ≤ c.toNat := by
 intro c r h
 have hm : c ∈ Lib.decDigits u := by rw [h]; simp
 rw [Lib.decDigits_eq, List.mem_map] at hm
 obtain ⟨t, _, rfl⟩ := hm
 unfold Lib.dg
 simp
 omega
theorem pw_eq (s : Str) : pw s (-1000000000) 1000000000 = sp s := by
 by_cases hl : 11 < s.length
 ·rw [pw_long s hl]
  unfold sp
  split
  ·exact (parse_long' _ (by simp; omega)).symm
  ·exact (parse_long _ hl).symm
 rw [pw_short s (by omega)]
 cases s with
 | nil => rfl
 | cons c r =>
  unfold sp
  by_cases h45 : c = 45
  ·subst h45
   show keep (45 :: r) (Lib.atoi (45 :: r)) = if some (45 : UInt8) = some 45 then neg9 (parseI r) else num9 (parseI (45 :: r))
   rw [if_pos rfl]
   show keep (45 :: r) ((Lib.decNat r).map fun (m : Nat) => -(m : Int)) = neg9 (parseI r)
   simp only [List.length_cons] at hl
   unfold Lib.decNat parseI
   cases r with
   | nil => rfl
   | cons d r =>
    rw [if_neg (by simp), if_pos ⟨by simp, by omega⟩]
    cases hd : Lib.decFrom 0 (d :: r) with
    | none => rfl
    | some v =>
     show (if Lib.itoa (-(v : Int)) = 45 :: d :: r ∧ (-1000000000 : Int) ≤ -(v : Int) ∧ -(v : Int) ≤ 1000000000 then some (-(v : Int)) else none) = neg9 (if v ≤ 1000000000000 ∧ Lib.decDigits v = d :: r then some v else none)
     by_cases h0 : v = 0
     ·subst h0
      rw [if_neg]
      ·by_cases h4 : (0 ≤ 1000000000000 ∧ Lib.decDigits 0 = d :: r)
       ·rw [if_pos h4]; rfl
       ·rw [if_neg h4]; rfl
      ·intro h
       have := h.1
       rw [show Lib.itoa (-((0 : Nat) : Int)) = [48] by decide +kernel] at this
       simp at this
     ·rw [Lib.itoa_neg v (by omega)]
      by_cases h2 : Lib.decDigits v = d :: r
      ·by_cases h3 : v ≤ 1000000000
       ·rw [if_pos ⟨by rw [h2], by omega, by omega⟩, if_pos ⟨by omega, h2⟩]
        show _ = if v ≤ 1000000000 ∧ v ≠ 0 then some (-(v : Int)) else none
        rw [if_pos ⟨h3, h0⟩]
       ·rw [if_neg (fun h => h3 (by have := h.2.1; omega))]
        by_cases h4 : v ≤ 1000000000000
        ·rw [if_pos ⟨h4, h2⟩]
         show _ = if v ≤ 1000000000 ∧ v ≠ 0 then some (-(v : Int)) else none
         rw [if_neg (fun h => h3 h.1)]
        ·rw [if_neg (fun h => h4 h.1)]; rfl
      ·rw [if_neg (fun h => h2 (by simpa using h.1)), if_neg (fun h => h2 h.2)]; rfl
  ·rw [if_neg (by simpa using h45)]
   by_cases h43 : c = 43
   ·subst h43
    have eP : num9 (parseI (43 :: r)) = none := by
     unfold parseI
     split
     ·rw [decFrom_bad (by decide)]; rfl
     ·rfl
    rw [eP]
    show keep (43 :: r) ((Lib.decNat r).map fun (m : Nat) => (m : Int)) = none
    cases Lib.decNat r with
    | none => rfl
    | some v =>
     show (if Lib.itoa (v : Int) = 43 :: r ∧ _ then some (v : Int) else none) = none
     rw [if_neg]
     intro h
     have h1 := h.1
     rw [Lib.itoa_nonneg] at h1
     exact absurd (head_digits v _ _ h1) (by decide)
   ·exact num_pos c r (by omega) h45 h43
end Go.Am
