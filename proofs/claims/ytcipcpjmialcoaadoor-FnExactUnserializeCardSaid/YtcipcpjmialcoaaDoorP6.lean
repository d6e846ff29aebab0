/- The reference's reader: what it reads is the text of its value, and the text of a valid value is read. -/
import Derived.Test.YtcipcpjmialcoaaDoorP5
set_option linter.unusedVariables false
set_option linter.unusedSimpArgs false
namespace Go.Am
open Go Go.RowKit Go.Proofs
def Rs (s : Str) (a : Nat) (v : TValue) (nx : Int) : Prop := nx = -1 ∨ ∃ r, s.drop a = v.ser ++ r ∧ nx = ((a + v.ser.length : Nat) : Int) ∧ v.plain = true ∧ v.wt ≤ v.ser.length
theorem head2 {s : Str} {a : Nat} (h : a + 1 < s.length) : s.drop a = [s.getD a 0, s.getD (a + 1) 0] ++ s.drop (a + 2) := by
 have e : ∀ i, i < s.length → s.drop i = s.getD i 0 :: s.drop (i + 1) := fun i hi => drop_cons hi
 rw [e a (by omega), e (a + 1) h]; rfl
theorem key_ser {v : TValue} (h : 2 ≤ v.fKind ∧ v.fKind ≤ 3) : keyText (TKey.mk (v.fKind == 3) v.fNum v.fStr) = v.ser := by
 rw [ser_eq, if_neg (by omega), if_neg (by omega)]
 unfold keyText
 by_cases h3 : v.fKind = 3
 ·rw [if_pos (by rw [h3]; rfl), if_neg (by omega), if_pos h3]
 ·rw [if_neg (by simpa using h3), if_pos (by omega)]
theorem rest_bad (s : Str) (d x n i : Int) (l : List TEntry) : m_s_l11Read_L2 s d x n (-1) l i = some (.inl (-1, l)) := by
 rw [m_s_l11Read_L2, if_neg (show ¬ ((-1 : Int) ≥ 0) by decide)]
 split <;> rfl
theorem items_rd {s : Str} {d : Nat} (hd : d ≤ 1000) (hs : s.length ≤ 1000000000000) (hv : ∀ a : Nat, a ≤ s.length → ∃ v nx, m_s_l11Read s (a : Int) ((d + 1 : Nat) : Int) = some (v, nx) ∧ Rs s a v nx) (N : Nat) (hN : N ≤ 200) (x : Int) :
  ∀ m i : Nat, i ≤ N → N - i = m → ∀ (p : Nat) (l : List TEntry), p ≤ s.length → l.length = i → ∃ o, m_s_l11Read_L2 s (d : Int) x (N : Int) (p : Int) l (i : Int) = some o ∧
   ((∃ v, o = .inr (v, -1)) ∨ (∃ l', o = .inl (-1, l')) ∨ ∃ q r, o = .inl (((p + (TEntry.serL q).length : Nat) : Int), l ++ q) ∧ i + q.length = N ∧ s.drop p = TEntry.serL q ++ r ∧ TEntry.plainL q = true ∧ TEntry.wtL q ≤ (TEntry.serL q).length) := by
 intro m
 induction m with
 | zero =>
  intro i h1 h2 p l hp hl
  rw [m_s_l11Read_L2, if_neg (by omega)]
  refine ⟨_, rfl, .inr (.inr ⟨[], s.drop p, ?_, by simp; omega, by rw [serL_nil]; rfl, plainL_nil, by rw [wtL_nil]; omega⟩)⟩
  rw [serL_nil, List.append_nil]; rfl
 | succ m ihm =>
  intro i h1 h2 p l hp hl
  rw [m_s_l11Read_L2, if_pos (by omega), if_pos (by omega), w_of (x := (d : Int) + 1) (n := d + 1) (by omega) (by omega)]
  obtain ⟨v1, n1, e1, g1⟩ := hv p hp
  rw [e1, sb]
  dsimp only
  rcases g1 with rfl | ⟨r1, f1, rfl, f2, f3⟩
  ·rw [if_pos (by decide)]; exact ⟨_, rfl, .inl ⟨_, rfl⟩⟩
  rw [if_neg (by omega), m53_eq, sb]
  have hl1 : p + v1.ser.length ≤ s.length := by
   have := congrArg List.length f1
   rw [List.length_drop, List.length_append] at this
   omega
  by_cases hk : 2 ≤ v1.fKind ∧ v1.fKind ≤ 3
  ·rw [if_pos (by simpa using hk)]
   obtain ⟨v2, n2, e2, g2⟩ := hv (p + v1.ser.length) hl1
   rw [e2, sb]
   dsimp only
   rw [lapp_eq (by simp only [List.length_cons, List.length_nil]; omega), sb, w_succ (by omega)]
   rcases g2 with rfl | ⟨r2, k1, rfl, k2, k3⟩
   ·rw [rest_bad]; exact ⟨_, rfl, .inr (.inl ⟨_, rfl⟩)⟩
   have hl2 : p + v1.ser.length + v2.ser.length ≤ s.length := by
    have := congrArg List.length k1
    rw [List.length_drop, List.length_append] at this
    omega
   obtain ⟨o, e3, g3⟩ := ihm (i + 1) (by omega) (by omega) (p + v1.ser.length + v2.ser.length) (l ++ [TEntry.mk (TKey.mk (v1.fKind == 3) v1.fNum v1.fStr) v2]) hl2 (by simp; omega)
   rw [e3]
   refine ⟨o, rfl, ?_⟩
   rcases g3 with g3 | g3 | ⟨q, r, rfl, b1, b2, b3, b4⟩
   ·exact .inl g3
   ·exact .inr (.inl g3)
   ·refine .inr (.inr ⟨TEntry.mk (TKey.mk (v1.fKind == 3) v1.fNum v1.fStr) v2 :: q, r, ?_, by simp only [List.length_cons]; omega, ?_, ?_, ?_⟩)
    ·rw [serL_cons]
     simp only [TEntry.fKey_mk, TEntry.fVal_mk, key_ser hk, List.length_append, List.append_assoc, List.singleton_append]
     congr 3
     omega
    ·rw [serL_cons]
     simp only [TEntry.fKey_mk, TEntry.fVal_mk, key_ser hk, List.append_assoc]
     have t1 := drop_next f1
     rw [t1] at k1
     have t2 : s.drop (p + v1.ser.length + v2.ser.length) = r2 := drop_next (t1.trans k1)
     rw [b2] at t2
     rw [f1, k1, ← t2]
    ·rw [plainL_cons]
     simp [k2, b3]
    ·rw [serL_cons, wtL_cons]
     simp only [TEntry.fKey_mk, TEntry.fVal_mk, key_ser hk, List.length_append]
     have := wt_pos v1
     omega
  ·rw [if_neg (by simpa using hk)]
   exact ⟨_, rfl, .inl ⟨_, rfl⟩⟩
theorem ser_arr (x : Int) (l : List TEntry) : (TValue.mk 4 0 [] x l).ser = [97, 58] ++ Lib.itoa (l.length : Int) ++ [58] ++ Lib.itoa x ++ [123] ++ TEntry.serL l ++ [125] := by
 rw [ser_eq]
 simp only [TValue.fKind_mk, TValue.fItems_mk, TValue.fNext_mk]
 rfl
theorem read_tot {s : Str} (hs : s.length ≤ 1000000000000) : ∀ (k d : Nat), d + k = 202 → ∀ a : Nat, a ≤ s.length → ∃ v nx, m_s_l11Read s (a : Int) (d : Int) = some (v, nx) ∧ Rs s a v nx := by
 have eW : W64 ((s.length : Int) - 1) = (s.length : Int) - 1 := by rw [W64, w64 (by omega) (by omega)]
 intro k
 induction k with
 | zero =>
  intro d hd a ha
  unfold m_s_l11Read
  rw [if_neg (Nat.succ_ne_self _)]
  by_cases h1 : (a : Int) ≥ W64 ((s.length : Int) - 1)
  ·rw [if_pos h1]; exact ⟨_, _, rfl, .inl rfl⟩
  ·rw [if_neg h1, if_pos (by omega)]; exact ⟨_, _, rfl, .inl rfl⟩
 | succ k ihk =>
  intro d hd a ha
  unfold m_s_l11Read
  rw [if_neg (Nat.succ_ne_self _), eW]
  by_cases h1 : (a : Int) ≥ (s.length : Int) - 1
  ·rw [if_pos h1]; exact ⟨_, _, rfl, .inl rfl⟩
  rw [if_neg h1]
  by_cases h2 : (d : Int) > 200
  ·rw [if_pos h2]; exact ⟨_, _, rfl, .inl rfl⟩
  have e2 : W64 ((a : Int) + 2) = ((a + 2 : Nat) : Int) := w_of (by simp) (by omega)
  have hd2 := head2 (s := s) (a := a) (by omega)
  generalize hc1 : s.getD a 0 = c1 at hd2
  generalize hc2 : s.getD (a + 1) 0 = c2 at hd2
  have e3 := ssub_drop hd2 (by simp only [List.length_cons, List.length_nil]; omega)
  replace e3 : ssub s (a : Int) ((a + 2 : Nat) : Int) = some [c1, c2] := e3
  rw [if_neg h2, e2, e3, sb]
  by_cases n78 : [c1, c2] = ([78, 59] : Str)
  ·rw [if_pos n78]
   rw [n78] at hd2
   exact ⟨_, _, rfl, .inr ⟨_, hd2, rfl, by rw [plain_eq]; rfl, by rw [wt_scal]; decide⟩⟩
  rw [if_neg n78]
  have scal : ∀ (kk : Int) (c : UInt8), (∀ n, (TValue.mk kk n [] 0 []).ser = [c, 58] ++ Lib.itoa n ++ [59] ∧ (TValue.mk kk n [] 0 []).plain = true) → [c1, c2] = [c, 58] → ∀ n nx, (n = 0 ∧ nx = -1 ∨ ∃ r, s.drop (a + 2) = Lib.itoa n ++ 59 :: r ∧ nx = ((a + 2 + (Lib.itoa n).length + 1 : Nat) : Int) ∧ -1000000000 ≤ n ∧ n ≤ 1000000001) → Rs s a (TValue.mk kk n [] 0 []) nx := by
   intro kk c hk hcc n nx hn
   rcases hn with ⟨_, rfl⟩ | ⟨r, g1, g2, _, _⟩
   ·exact .inl rfl
   ·refine .inr ⟨r, ?_, ?_, (hk n).2, ?_⟩
    ·rw [hd2, hcc, g1, (hk n).1]; simp
    ·rw [g2, (hk n).1]
     simp only [List.length_append, List.length_cons, List.length_nil]
     omega
    ·rw [wt_scal, (hk n).1]
     simp only [List.length_append, List.length_cons, List.length_nil]
     omega
  by_cases n98 : [c1, c2] = ([98, 58] : Str)
  ·obtain ⟨n, nx, e4, hn⟩ := num_tot (a := a + 2) 59 hs (by omega)
   replace e4 : m_s_l11Num s ((a + 2 : Nat) : Int) 59 = some (n, nx) := e4
   rw [if_pos n98, sb, if_pos (by rw [n98]; rfl), e4, sb]
   dsimp only
   rw [if_pos n98, sb]
   exact ⟨_, _, rfl, scal 1 98 (fun n => ⟨by rw [ser_eq]; rfl, by rw [plain_eq]; rfl⟩) n98 n nx hn⟩
  rw [if_neg n98, sb]
  by_cases n105 : [c1, c2] = ([105, 58] : Str)
  ·obtain ⟨n, nx, e4, hn⟩ := num_tot (a := a + 2) 59 hs (by omega)
   replace e4 : m_s_l11Num s ((a + 2 : Nat) : Int) 59 = some (n, nx) := e4
   rw [if_pos (by rw [n105]; rfl), e4, sb]
   dsimp only
   rw [if_neg n98, sb]
   exact ⟨_, _, rfl, scal 2 105 (fun n => ⟨by rw [ser_eq]; rfl, by rw [plain_eq]; rfl⟩) n105 n nx hn⟩
  rw [if_neg (by simpa using n105)]
  by_cases n115 : [c1, c2] = ([115, 58] : Str)
  ·obtain ⟨n, nx, e4, hn⟩ := num_tot (a := a + 2) 58 hs (by omega)
   replace e4 : m_s_l11Num s ((a + 2 : Nat) : Int) 58 = some (n, nx) := e4
   rw [if_pos n115, e4, sb]
   dsimp only
   rcases hn with ⟨_, rfl⟩ | ⟨r, g1, rfl, _, _⟩
   ·rw [if_pos (by decide), sb]; exact ⟨_, _, rfl, .inl rfl⟩
   rw [if_neg (by omega)]
   have hlr : a + 2 + (Lib.itoa n).length + 1 + r.length = s.length := by
    have := congrArg List.length g1
    rw [List.length_drop, List.length_append, List.length_cons] at this
    omega
   by_cases hn0 : n < 0
   ·rw [if_pos hn0, sb]; exact ⟨_, _, rfl, .inl rfl⟩
   obtain ⟨M, rfl⟩ : ∃ M : Nat, n = (M : Int) := ⟨n.toNat, by omega⟩
   rw [if_neg hn0, show W64 ((s.length : Int) - ((a + 2 + (Lib.itoa (M : Int)).length + 1 : Nat) : Int)) = (s.length : Int) - ((a + 2 + (Lib.itoa (M : Int)).length + 1 : Nat) : Int) by rw [W64, w64 (by omega) (by omega)]]
   by_cases hM : (M : Int) ≥ (s.length : Int) - ((a + 2 + (Lib.itoa (M : Int)).length + 1 : Nat) : Int)
   ·rw [if_pos hM, sb]; exact ⟨_, _, rfl, .inl rfl⟩
   generalize hp : a + 2 + (Lib.itoa (M : Int)).length + 1 = p at hM hlr ⊢
   rw [if_neg hM, w_of (x := (p : Int) + (M : Int)) (n := p + M) (by simp) (by omega), sidx_nat (show p + M < s.length by omega), sb]
   by_cases h59 : s.getD (p + M) 0 = 59
   ·have g3 : s.drop p = r := by
     have := drop_next (d := Lib.itoa (M : Int) ++ [58]) (r := r) (a := a + 2) (s := s) (by rw [g1]; simp)
     rw [← this]
     congr 1
     simp only [List.length_append, List.length_cons, List.length_nil]
     omega
    have g4 : s.drop p = (s.take (p + M)).drop p ++ 59 :: s.drop (p + M + 1) := drop_split (by omega) (by omega) h59
    have g5 : ((s.take (p + M)).drop p).length = M := by rw [List.length_drop, List.length_take]; omega
    have e6 : ssub s (p : Int) ((p + M : Nat) : Int) = some ((s.take (p + M)).drop p) := by unfold ssub; rw [if_pos ⟨by omega, by omega, by omega⟩]; rfl
    rw [if_pos (by rw [h59]; rfl), e6, sb, sb, w_succ (by omega)]
    have es : (TValue.mk 3 0 ((s.take (p + M)).drop p) 0 []).ser = txt ((s.take (p + M)).drop p) := by rw [ser_eq]; rfl
    have el : (txt ((s.take (p + M)).drop p)).length = 2 + (Lib.itoa (M : Int)).length + 1 + M + 1 := by
     unfold txt
     rw [g5]
     simp only [List.length_append, List.length_cons, List.length_nil, g5]
    refine ⟨_, _, rfl, .inr ⟨s.drop (p + M + 1), ?_, ?_, by rw [plain_eq]; rfl, by rw [wt_scal, es, el]; omega⟩⟩
    ·rw [es, hd2, n115, g1, ← g3, g4]
     unfold txt
     rw [g5]
     simp
    ·rw [es, el]
     omega
   ·rw [if_neg (fun h => h59 (UInt8.toNat_inj.1 (by exact Int.ofNat.inj h))), sb]
    exact ⟨_, _, rfl, .inl rfl⟩
  rw [if_neg n115]
  by_cases n97 : [c1, c2] = ([97, 58] : Str)
  ·obtain ⟨n, nx, e4, hn⟩ := num_tot (a := a + 2) 58 hs (by omega)
   replace e4 : m_s_l11Num s ((a + 2 : Nat) : Int) 58 = some (n, nx) := e4
   rw [if_pos n97, e4, sb]
   dsimp only
   rw [sb]
   dsimp only
   rcases hn with ⟨_, rfl⟩ | ⟨r, g1, rfl, _, _⟩
   ·rw [if_pos (by decide)]; exact ⟨_, _, rfl, .inl rfl⟩
   rw [if_neg (by omega)]
   by_cases hn0 : n < 0
   ·rw [if_pos hn0]; exact ⟨_, _, rfl, .inl rfl⟩
   obtain ⟨M, rfl⟩ : ∃ M : Nat, n = (M : Int) := ⟨n.toNat, by omega⟩
   rw [if_neg hn0]
   by_cases hM : (M : Int) > 200
   ·rw [if_pos hM]; exact ⟨_, _, rfl, .inl rfl⟩
   rw [if_neg hM]
   have hlr : a + 2 + (Lib.itoa (M : Int)).length + 1 + r.length = s.length := by
    have := congrArg List.length g1
    rw [List.length_drop, List.length_append, List.length_cons] at this
    omega
   have g3 : s.drop (a + 2 + (Lib.itoa (M : Int)).length + 1) = r := by
    have := drop_next (d := Lib.itoa (M : Int) ++ [58]) (r := r) (a := a + 2) (s := s) (by rw [g1]; simp)
    rw [← this]
    congr 1
    simp only [List.length_append, List.length_cons, List.length_nil]
    omega
   generalize hp : a + 2 + (Lib.itoa (M : Int)).length + 1 = p at hlr g3 ⊢
   obtain ⟨x, nx, e5, hx⟩ := num_tot (a := p) 123 hs (by omega)
   replace e5 : m_s_l11Num s (p : Int) 123 = some (x, nx) := e5
   rw [e5, sb]
   dsimp only
   rcases hx with ⟨_, rfl⟩ | ⟨r2, k1, rfl, _, _⟩
   ·rw [rest_bad, sb]
    dsimp only
    rw [if_pos (by decide)]; exact ⟨_, _, rfl, .inl rfl⟩
   have hlr2 : p + (Lib.itoa x).length + 1 + r2.length = s.length := by
    have := congrArg List.length k1
    rw [List.length_drop, List.length_append, List.length_cons] at this
    omega
   have k3 : s.drop (p + (Lib.itoa x).length + 1) = r2 := by
    have := drop_next (d := Lib.itoa x ++ [123]) (r := r2) (a := p) (s := s) (by rw [k1]; simp)
    rw [← this]
    congr 1
    simp only [List.length_append, List.length_cons, List.length_nil]
    omega
   generalize hp2 : p + (Lib.itoa x).length + 1 = p2 at hlr2 k3 ⊢
   obtain ⟨o, e6, ho⟩ := items_rd (d := d) (by omega) hs (fun a ha => ihk (d + 1) (by omega) a ha) M (by omega) x M 0 (by omega) (by omega) p2 [] (by omega) rfl
   replace e6 : m_s_l11Read_L2 s (d : Int) x (M : Int) (p2 : Int) [] 0 = some o := e6
   rw [e6, sb]
   rcases ho with ⟨v, rfl⟩ | ⟨l', rfl⟩ | ⟨q, r3, rfl, b1, b2, b3, b4⟩
   ·exact ⟨_, _, rfl, .inl rfl⟩
   ·dsimp only
    rw [if_pos (by decide)]; exact ⟨_, _, rfl, .inl rfl⟩
   ·dsimp only
    rw [List.nil_append, if_neg (by omega)]
    by_cases hend : ((p2 + (TEntry.serL q).length : Nat) : Int) ≥ (s.length : Int)
    ·rw [if_pos hend]; exact ⟨_, _, rfl, .inl rfl⟩
    rw [if_neg hend, sidx_nat (show p2 + (TEntry.serL q).length < s.length by omega), sb]
    by_cases h125 : s.getD (p2 + (TEntry.serL q).length) 0 = 125
    ·rw [if_pos (by rw [h125]; rfl), w_succ (by omega)]
     have t1 := drop_next b2
     have t2 := drop_cons (s := s) (i := p2 + (TEntry.serL q).length) (by omega)
     rw [h125, t1] at t2
     have b1 : q.length = M := by omega
     refine ⟨_, _, rfl, .inr ⟨s.drop (p2 + (TEntry.serL q).length + 1), ?_, ?_, ?_, ?_⟩⟩
     ·rw [ser_arr, b1, hd2, n97, g1, ← g3, k1, ← k3, b2, t2]
      simp
     ·rw [ser_arr, b1]
      simp only [List.length_append, List.length_cons, List.length_nil]
      omega
     ·rw [plain_eq]; simpa using b3
     ·rw [TValue.wt_eq, ser_arr]
      simp only [TValue.fItems_mk, List.length_append, List.length_cons, List.length_nil]
      omega
    ·rw [if_neg (fun h => h125 (UInt8.toNat_inj.1 (by exact Int.ofNat.inj h)))]
     exact ⟨_, _, rfl, .inl rfl⟩
  ·rw [if_neg n97, sb]
   dsimp only
   rw [if_pos (by decide)]
   exact ⟨_, _, rfl, .inl rfl⟩
end Go.Am
