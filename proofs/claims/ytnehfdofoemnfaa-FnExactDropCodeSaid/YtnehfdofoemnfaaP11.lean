/- The plain law, eleventh part: sizes, copies and comparisons of what came in. -/
import Derived.Test.YtnehfdofoemnfaaP10
import Derived.Test.YtnehfdofoemnfaaA7
set_option linter.unusedVariables false
set_option linter.unusedSimpArgs false
namespace Go.Am
open Go Go.RowKit Go.Proofs
def maxL : Nat := 9223372036854775807
def TParam.Ok (a : TParam) : Prop := a.fName.length ≤ 9223372036854775807
def TIns.Ok (a : TIns) : Prop := a.fS.length ≤ 9223372036854775807 ∧ a.fT.length ≤ 9223372036854775807
structure TFunc.Ok (a : TFunc) : Prop where
 name : a.fName.length ≤ 9223372036854775807
 params : a.fParams.length ≤ 9223372036854775807
 param : ∀ i, i < a.fParams.length → TParam.Ok (gP a.fParams i)
 uses : a.fUses.length ≤ 9223372036854775807
 use : ∀ i, i < a.fUses.length → TParam.Ok (gP a.fUses i)
 slots : a.fSlots.length ≤ 9223372036854775807
 slot : ∀ i, i < a.fSlots.length → (gS a.fSlots i).length ≤ 9223372036854775807
 code : a.fCode.length ≤ 9223372036854775807
 ins : ∀ i, i < a.fCode.length → TIns.Ok (gC a.fCode i)
theorem sz_loop {L : Int → Int → Option (Int ⊕ Int)} (n : Nat) (hs : ∀ (i : Nat) (y : Int), i < n → 0 ≤ y → y ≤ 1048576 → L y (i : Int) = some (.inr (-1)) ∨ ∃ z, 0 ≤ z ∧ z ≤ y ∧ L y (i : Int) = L z ((i + 1 : Nat) : Int))
  (he : ∀ y, L y (n : Int) = some (.inl y)) : ∀ (f i : Nat) (y : Int), n ≤ i + f → i ≤ n → 0 ≤ y → y ≤ 1048576 → ∃ o, L y (i : Int) = some o ∧ (o = .inr (-1) ∨ ∃ z, o = .inl z ∧ 0 ≤ z ∧ z ≤ y)
 | f, i, y, hf, hi, h0, h1 => by
  by_cases hc : i < n
  ·obtain ⟨g, rfl⟩ : ∃ g, f = g + 1 := ⟨f - 1, by omega⟩
   rcases hs i y hc h0 h1 with e | ⟨z, z0, z1, e⟩
   ·exact ⟨_, e, .inl rfl⟩
   ·obtain ⟨o, e2, h⟩ := sz_loop n hs he g (i + 1) z (by omega) (by omega) z0 (by omega)
    refine ⟨o, e.trans e2, ?_⟩
    rcases h with h | ⟨u, h, h2, h3⟩
    ·exact .inl h
    ·exact .inr ⟨u, h, h2, by omega⟩
  ·have : i = n := by omega
   subst this
   exact ⟨_, he y, .inr ⟨y, rfl, h0, Int.le_refl _⟩⟩
theorem wsub {y : Int} {n : Nat} (h0 : 0 ≤ y) (h1 : y ≤ 1048576) (hn : n ≤ 9223372036854775807) : W64 (y - (n : Int)) = y - (n : Int) := w64 (by omega) (by omega)
theorem szParamS_eq (l : List TParam) (k : Int) (h0 : 0 ≤ k) (h1 : k ≤ 1048576) (hl : l.length ≤ 9223372036854775807) (hp : ∀ i, i < l.length → TParam.Ok (gP l i)) :
  ∃ v, m_l_szParamS l k = some v ∧ (v = -1 ∨ (0 ≤ v ∧ v ≤ k ∧ l.length ≤ 1048576)) := by
 unfold m_l_szParamS
 rw [wsub h0 h1 hl]
 by_cases h : k - (l.length : Int) < 0
 ·rw [if_pos h]; exact ⟨_, rfl, .inl rfl⟩
 ·rw [if_neg h]
  obtain ⟨o, e, ho⟩ := sz_loop (L := m_l_szParamS_L2 l) l.length (fun i y hi y0 y1 => by
   rw [m_l_szParamS_L2, if_pos (by omega), idx_gP hi, sb]
   unfold m_l_szParam
   rw [wsub y0 y1 (hp i hi), w_succ (by omega)]
   by_cases hz : y - ((gP l i).fName.length : Int) < 0
   ·rw [if_pos hz]; exact .inl rfl
   ·rw [if_neg hz, sb, if_neg hz]; exact .inr ⟨_, by omega, by omega, rfl⟩) (fun y => by rw [m_l_szParamS_L2, if_neg (by omega)]) l.length 0 (k - (l.length : Int)) (by omega) (by omega) (by omega) (by omega)
  rw [show ((0 : Nat) : Int) = 0 from rfl] at e
  rw [e, sb]
  rcases ho with rfl | ⟨z, rfl, z0, z1⟩
  ·exact ⟨_, rfl, .inl rfl⟩
  ·exact ⟨_, rfl, .inr ⟨z0, by omega, by omega⟩⟩
theorem szStringS_eq (l : List Str) (k : Int) (h0 : 0 ≤ k) (h1 : k ≤ 1048576) (hl : l.length ≤ 9223372036854775807) (hp : ∀ i, i < l.length → (gS l i).length ≤ 9223372036854775807) :
  ∃ v, m_l_szStringS l k = some v ∧ (v = -1 ∨ (0 ≤ v ∧ v ≤ k ∧ l.length ≤ 1048576)) := by
 unfold m_l_szStringS
 rw [wsub h0 h1 hl]
 by_cases h : k - (l.length : Int) < 0
 ·rw [if_pos h]; exact ⟨_, rfl, .inl rfl⟩
 ·rw [if_neg h]
  obtain ⟨o, e, ho⟩ := sz_loop (L := m_l_szStringS_L2 l) l.length (fun i y hi y0 y1 => by
   rw [m_l_szStringS_L2, if_pos (by omega), idx_gS hi, sb, wsub y0 y1 (hp i hi), w_succ (by omega)]
   by_cases hz : y - ((gS l i).length : Int) < 0
   ·rw [if_pos hz]; exact .inl rfl
   ·rw [if_neg hz]; exact .inr ⟨_, by omega, by omega, rfl⟩) (fun y => by rw [m_l_szStringS_L2, if_neg (by omega)]) l.length 0 (k - (l.length : Int)) (by omega) (by omega) (by omega) (by omega)
  rw [show ((0 : Nat) : Int) = 0 from rfl] at e
  rw [e, sb]
  rcases ho with rfl | ⟨z, rfl, z0, z1⟩
  ·exact ⟨_, rfl, .inl rfl⟩
  ·exact ⟨_, rfl, .inr ⟨z0, by omega, by omega⟩⟩
theorem szInsS_eq (l : List TIns) (k : Int) (h0 : 0 ≤ k) (h1 : k ≤ 1048576) (hl : l.length ≤ 9223372036854775807) (hp : ∀ i, i < l.length → TIns.Ok (gC l i)) :
  ∃ v, m_l_szInsS l k = some v ∧ (v = -1 ∨ (0 ≤ v ∧ v ≤ k ∧ l.length ≤ 1048576)) := by
 unfold m_l_szInsS
 rw [wsub h0 h1 hl]
 by_cases h : k - (l.length : Int) < 0
 ·rw [if_pos h]; exact ⟨_, rfl, .inl rfl⟩
 ·rw [if_neg h]
  obtain ⟨o, e, ho⟩ := sz_loop (L := m_l_szInsS_L2 l) l.length (fun i y hi y0 y1 => by
   obtain ⟨p1, p2⟩ := hp i hi
   rw [m_l_szInsS_L2, if_pos (by omega), idx_gC hi, sb]
   unfold m_l_szIns
   rw [wsub y0 y1 p1, w_succ (by omega)]
   by_cases hz : y - ((gC l i).fS.length : Int) < 0
   ·rw [if_pos hz]; exact .inl rfl
   ·rw [if_neg hz, wsub (by omega) (by omega) p2]
    by_cases hz2 : y - ((gC l i).fS.length : Int) - ((gC l i).fT.length : Int) < 0
    ·rw [if_pos hz2]; exact .inl rfl
    ·rw [if_neg hz2, sb, if_neg hz2]; exact .inr ⟨_, by omega, by omega, rfl⟩) (fun y => by rw [m_l_szInsS_L2, if_neg (by omega)]) l.length 0 (k - (l.length : Int)) (by omega) (by omega) (by omega) (by omega)
  rw [show ((0 : Nat) : Int) = 0 from rfl] at e
  rw [e, sb]
  rcases ho with rfl | ⟨z, rfl, z0, z1⟩
  ·exact ⟨_, rfl, .inl rfl⟩
  ·exact ⟨_, rfl, .inr ⟨z0, by omega, by omega⟩⟩
theorem szFunc_eq (a : TFunc) (ha : a.Ok) (k : Int) (h0 : 0 ≤ k) (h1 : k ≤ 1048576) : ∃ v, m_l_szFunc a k = some v ∧ (v = -1 ∨ (0 ≤ v ∧ v ≤ k ∧ Fits a)) := by
 unfold m_l_szFunc
 rw [wsub h0 h1 ha.name]
 by_cases h : k - (a.fName.length : Int) < 0
 ·rw [if_pos h]; exact ⟨_, rfl, .inl rfl⟩
 rw [if_neg h]
 obtain ⟨v1, e1, c1⟩ := szParamS_eq a.fParams (k - (a.fName.length : Int)) (by omega) (by omega) ha.params ha.param
 rw [e1, sb]
 rcases c1 with rfl | ⟨p1, p2, p3⟩
 ·rw [if_pos (by omega)]; exact ⟨_, rfl, .inl rfl⟩
 rw [if_neg (by omega)]
 obtain ⟨v2, e2, c2⟩ := szParamS_eq a.fUses v1 p1 (by omega) ha.uses ha.use
 rw [e2, sb]
 rcases c2 with rfl | ⟨q1, q2, q3⟩
 ·rw [if_pos (by omega)]; exact ⟨_, rfl, .inl rfl⟩
 rw [if_neg (by omega)]
 obtain ⟨v3, e3, c3⟩ := szStringS_eq a.fSlots v2 q1 (by omega) ha.slots ha.slot
 rw [e3, sb]
 rcases c3 with rfl | ⟨r1, r2, r3⟩
 ·rw [if_pos (by omega)]; exact ⟨_, rfl, .inl rfl⟩
 rw [if_neg (by omega)]
 obtain ⟨v4, e4, c4⟩ := szInsS_eq a.fCode v3 r1 (by omega) ha.code ha.ins
 rw [e4, sb]
 rcases c4 with rfl | ⟨s1, s2, s3⟩
 ·rw [if_pos (by omega)]; exact ⟨_, rfl, .inl rfl⟩
 rw [if_neg (by omega)]
 exact ⟨_, rfl, .inr ⟨s1, by omega, ⟨by omega, by omega, by omega, by omega, by omega⟩⟩⟩
theorem to_loop {α : Type} (a : List α) {L : List α → Int → Option (List α)} (hs : ∀ (l : List α) (k : Nat) (h : k < a.length), l.length = a.length → L l (k : Int) = L (l.set k a[k]) ((k + 1 : Nat) : Int))
  (he : ∀ l, L l (a.length : Int) = some l) : ∀ (f k : Nat) (l : List α), a.length ≤ k + f → k ≤ a.length → l.length = a.length → (∀ j, j < k → l[j]? = a[j]?) → L l (k : Int) = some a
 | f, k, l, hf, hk, hl, hj => by
  by_cases hc : k < a.length
  ·obtain ⟨g, rfl⟩ : ∃ g, f = g + 1 := ⟨f - 1, by omega⟩
   rw [hs l k hc hl]
   refine to_loop a hs he g (k + 1) _ (by omega) (by omega) (by rw [List.length_set]; exact hl) (fun j hj2 => ?_)
   rw [List.getElem?_set]
   by_cases h : k = j
   ·subst h
    rw [if_pos rfl, if_pos (by omega), List.getElem?_eq_getElem hc]
   ·rw [if_neg h]; exact hj j (by omega)
  ·have : k = a.length := by omega
   subst this
   rw [he l]
   congr 1
   refine List.ext_getElem? fun j => ?_
   by_cases h : j < a.length
   ·exact hj j h
   ·rw [List.getElem?_eq_none (by omega), List.getElem?_eq_none (by omega)]
theorem mk_eq {α : Type} [Inhabited α] {b n : Nat} (hn : n ≤ 2000000) (hb : b ≤ 100) : (lmake b (n : Int) (n : Int) : Option (List α)) = some (List.replicate n default) := by
 unfold lmake
 have : n * b ≤ 2000000 * 100 := Nat.mul_le_mul hn hb
 rw [if_pos ⟨by omega, by omega, by omega, by simp only [Int.toNat_natCast]; omega⟩]; rfl
theorem toParamS_eq (a : List TParam) (hn : a.length ≤ 2000000) : m_l_toParamS a = some a := by
 unfold m_l_toParamS
 have e := to_loop a (L := m_l_toParamS_L2 a) (fun l k hk hl => by rw [m_l_toParamS_L2, if_pos (by omega), idx_nat hk, sb, idx_nat (by omega), sb, w_succ (by omega)]; rfl) (fun l => by rw [m_l_toParamS_L2, if_neg (by omega)]) a.length 0 (List.replicate a.length default) (by omega) (by omega) (by simp) (fun j h => absurd h (by omega))
 rw [show ((0 : Nat) : Int) = 0 from rfl] at e
 rw [mk_eq hn (by omega), sb, e]; rfl
theorem toStringS_eq (a : List Str) (hn : a.length ≤ 2000000) : m_l_toStringS a = some a := by
 unfold m_l_toStringS
 have e := to_loop a (L := m_l_toStringS_L2 a) (fun l k hk hl => by rw [m_l_toStringS_L2, if_pos (by omega), idx_nat hk, sb, idx_nat (by omega), sb, w_succ (by omega)]; rfl) (fun l => by rw [m_l_toStringS_L2, if_neg (by omega)]) a.length 0 (List.replicate a.length default) (by omega) (by omega) (by simp) (fun j h => absurd h (by omega))
 rw [show ((0 : Nat) : Int) = 0 from rfl] at e
 rw [mk_eq hn (by omega), sb, e]; rfl
theorem toInsS_eq (a : List TIns) (hn : a.length ≤ 2000000) : m_l_toInsS a = some a := by
 unfold m_l_toInsS
 have e := to_loop a (L := m_l_toInsS_L2 a) (fun l k hk hl => by rw [m_l_toInsS_L2, if_pos (by omega), idx_nat hk, sb, idx_nat (by omega), sb, w_succ (by omega)]; rfl) (fun l => by rw [m_l_toInsS_L2, if_neg (by omega)]) a.length 0 (List.replicate a.length default) (by omega) (by omega) (by simp) (fun j h => absurd h (by omega))
 rw [show ((0 : Nat) : Int) = 0 from rfl] at e
 rw [mk_eq hn (by omega), sb, e]; rfl
theorem toIntS_eq (a : List Int) (hn : a.length ≤ 2000000) : m_l_toIntS a = some a := by
 unfold m_l_toIntS
 have e := to_loop a (L := m_l_toIntS_L2 a) (fun l k hk hl => by rw [m_l_toIntS_L2, if_pos (by omega), idx_nat hk, sb, idx_nat (by omega), sb, w_succ (by omega)]; rfl) (fun l => by rw [m_l_toIntS_L2, if_neg (by omega)]) a.length 0 (List.replicate a.length default) (by omega) (by omega) (by simp) (fun j h => absurd h (by omega))
 rw [show ((0 : Nat) : Int) = 0 from rfl] at e
 rw [mk_eq hn (by omega), sb, e]; rfl
theorem toFunc_eq (a : TFunc) (ha : Fits a) : m_l_toFunc a = some a := by
 unfold m_l_toFunc
 rw [toParamS_eq _ ha.params, sb, toParamS_eq _ ha.uses, sb, toStringS_eq _ ha.slots, sb, toInsS_eq _ ha.code, sb]
theorem self_loop {L : Int → Option (Unit ⊕ Bool)} (n : Nat) (hs : ∀ k : Nat, k < n → L (k : Int) = L ((k + 1 : Nat) : Int)) (he : L (n : Int) = some (.inl ())) : L 0 = some (.inl ()) := by
 rw [loop_all0 (L := L) (fun _ => true) n (fun k hk => ⟨fun _ => hs k hk, (fun h => by cases h)⟩) he, if_pos (allN_iff.2 fun _ _ _ => rfl)]
theorem eqIns_self (x : TIns) : m_l_eqIns x x = some true := by
 unfold m_l_eqIns; rw [if_pos rfl, if_pos rfl, if_pos rfl, if_pos rfl, if_pos rfl]
theorem eqParam_self (x : TParam) : m_l_eqParam x x = some true := by
 unfold m_l_eqParam; rw [if_pos rfl, if_pos rfl]
theorem eqParamS_self (l : List TParam) (hn : l.length ≤ 2000000) : m_l_eqParamS l l = some true := by
 unfold m_l_eqParamS
 rw [if_pos rfl, self_loop (L := m_l_eqParamS_L2 l l) l.length (fun k hk => by rw [m_l_eqParamS_L2, if_pos (by omega), idx_gP hk, sb, sb, eqParam_self, sb, if_pos rfl, w_succ (by omega)]) (by rw [m_l_eqParamS_L2, if_neg (by omega)])]; rfl
theorem eqStringS_self (l : List Str) (hn : l.length ≤ 2000000) : m_l_eqStringS l l = some true := by
 unfold m_l_eqStringS
 rw [if_pos rfl, self_loop (L := m_l_eqStringS_L2 l l) l.length (fun k hk => by rw [m_l_eqStringS_L2, if_pos (by omega), idx_gS hk, sb, sb, if_pos rfl, w_succ (by omega)]) (by rw [m_l_eqStringS_L2, if_neg (by omega)])]; rfl
theorem eqInsS_self (l : List TIns) (hn : l.length ≤ 2000000) : m_l_eqInsS l l = some true := by
 unfold m_l_eqInsS
 rw [if_pos rfl, self_loop (L := m_l_eqInsS_L2 l l) l.length (fun k hk => by rw [m_l_eqInsS_L2, if_pos (by omega), idx_gC hk, sb, sb, eqIns_self, sb, if_pos rfl, w_succ (by omega)]) (by rw [m_l_eqInsS_L2, if_neg (by omega)])]; rfl
theorem eqIntS_self (l : List Int) (hn : l.length ≤ 2000000) : m_l_eqIntS l l = some true := by
 unfold m_l_eqIntS
 rw [if_pos rfl, self_loop (L := m_l_eqIntS_L2 l l) l.length (fun k hk => by rw [m_l_eqIntS_L2, if_pos (by omega), idx_gI hk, sb, sb, if_pos rfl, w_succ (by omega)]) (by rw [m_l_eqIntS_L2, if_neg (by omega)])]; rfl
theorem eqFunc_self (a : TFunc) (ha : Fits a) : m_l_eqFunc a a = some true := by
 unfold m_l_eqFunc
 rw [if_pos rfl, eqParamS_self _ ha.params, sb, if_pos rfl, eqParamS_self _ ha.uses, sb, if_pos rfl, eqStringS_self _ ha.slots, sb, if_pos rfl, if_pos rfl, eqInsS_self _ ha.code, sb, if_pos rfl]
theorem law_thread (a b : TFunc) (ha : a.Ok) (hb : b.Ok) : m_l_FnExactCheckThread a b = some true := by
 unfold m_l_FnExactCheckThread
 obtain ⟨v1, e1, c1⟩ := szFunc_eq a ha 1048576 (by omega) (by omega)
 rw [e1, sb]
 rcases c1 with rfl | ⟨p1, p2, fa⟩
 ·rw [if_pos (by omega)]
 rw [if_neg (by omega)]
 obtain ⟨v2, e2, c2⟩ := szFunc_eq b hb v1 p1 (by omega)
 rw [e2, sb]
 rcases c2 with rfl | ⟨q1, q2, fb⟩
 ·rw [if_pos (by omega)]
 rw [if_neg (by omega)]
 obtain ⟨v, hi, hs⟩ := thread_eq a b fa fb
 rw [toFunc_eq a fa, toFunc_eq b fb, sb, sb, hs, sb, sb, sb, hi, sb, if_pos rfl, sb, eqFunc_self a fa, sb, if_pos rfl, sb, eqFunc_self b fb, sb, if_pos rfl]
end Go.Am
