/- Small laws, and the draws (lines of wip/s5's W1, V1, V3, V5, P2, for this seat's models). -/
import Derived.Test.YtbdanphebcjmmaaDoorA4
import Derived.Lib.IndexMore
set_option linter.unusedVariables false
set_option linter.unusedSimpArgs false
namespace Go.Am
open Go Go.RowKit Go.Proofs

theorem sb {α β : Type} (a : α) (f : α → Option β) : (some a >>= f) = f a := rfl
theorem sidx_nat {s : Str} {i : Nat} (h : i < s.length) : sidx s (i : Int) = some (s.getD i 0) := by
  unfold sidx; rw [if_pos ⟨by omega, by omega⟩]; rfl
theorem idx_nat {α : Type} [Inhabited α] {l : List α} {i : Nat} (h : i < l.length) : idx l (i : Int) = some l[i] := by
  unfold idx; rw [if_pos ⟨by omega, by omega⟩]
  simp [List.getD_eq_getElem?_getD, h]
theorem w_nat {x : Int} {n : Nat} (h : x = (n : Int)) (hn : n ≤ 9223372036854775807) : W64 x = (n : Int) := by
  subst h; exact w64 (by omega) (by omega)
theorem w_succ {i : Nat} (h : i < 9223372036854775807) : W64 ((i : Int) + 1) = ((i + 1 : Nat) : Int) := w_nat (by omega) (by omega)
theorem lapp_eq {α : Type} {b : Nat} {l m : List α} (h : (l.length + m.length) * b ≤ 140737488355328) : lapp b l m = some (l ++ m) := if_pos h
theorem w_of {x : Int} {n : Nat} (h : x = (n : Int)) (hn : n < 9000000000000000000) : W64 x = (n : Int) := by subst h; rw [W64, w64 (by omega) (by omega)]
theorem scat_eq {a b : Str} (h : a.length + b.length ≤ 4611686018427387904) : scat a b = some (a ++ b) := if_pos h
theorem m73_eq {n : Int} (h0 : -9223372036854775808 ≤ n) (h1 : n ≤ 9223372036854775807) : m73 n = some (Lib.itoa n) := if_pos ⟨h0, h1⟩
theorem drop_next {s d r : Str} {a : Nat} (h : s.drop a = d ++ r) : s.drop (a + d.length) = r := by
  rw [← List.drop_drop, h, List.drop_left]
theorem drop_len {s d r : Str} {a : Nat} (h : s.drop a = d ++ r) (hd : 0 < d.length) : a + d.length + r.length = s.length := by
  have := congrArg List.length h
  rw [List.length_drop, List.length_append] at this
  omega
theorem drop_at {s r : Str} {a : Nat} {c : UInt8} (h : s.drop a = c :: r) : a < s.length ∧ s.getD a 0 = c := by
  have h1 := congrArg List.length h
  rw [List.length_drop, List.length_cons] at h1
  have h2 : a < s.length := by omega
  rw [List.drop_eq_getElem_cons h2] at h
  injection h with h3 h4
  exact ⟨h2, by rw [List.getD_eq_getElem?_getD, List.getElem?_eq_getElem h2, Option.getD_some, h3]⟩
theorem sidx_drop {s r : Str} {a : Nat} {c : UInt8} (h : s.drop a = c :: r) : sidx s (a : Int) = some c := by
  obtain ⟨h1, h2⟩ := drop_at h
  rw [sidx_nat h1, h2]
theorem ssub_drop {s d r : Str} {a : Nat} (h : s.drop a = d ++ r) (ha : a + d.length ≤ s.length) : ssub s (a : Int) ((a + d.length : Nat) : Int) = some d := by
  unfold ssub
  rw [if_pos ⟨by omega, by omega, by omega⟩, Int.toNat_natCast, Int.toNat_natCast, List.drop_take, h, show a + d.length - a = d.length by omega, List.take_left]

/-! ### The draws -/
theorem and255_bd (v : Int) : 0 ≤ bits .and .i64 v 255 ∧ bits .and .i64 v 255 ≤ 255 := by
  unfold bits
  have e2 : BitVec.ofInt IntKind.i64.bits 255 = BitVec.ofNat 64 255 := by rfl
  simp only [e2]
  have h : (BitVec.ofInt 64 v &&& BitVec.ofNat 64 255).toNat ≤ 255 := by
    rw [BitVec.toNat_and]
    exact Nat.and_le_right
  show 0 ≤ IntKind.i64.wrap ((BitVec.ofInt 64 v &&& BitVec.ofNat 64 255).toNat : Int) ∧ IntKind.i64.wrap ((BitVec.ofInt 64 v &&& BitVec.ofNat 64 255).toNat : Int) ≤ 255
  rw [w64 (by omega) (by omega)]
  omega

/-- A cursor that stands within its bytes. -/
def Cu (c : TL1Cur) : Prop := 0 ≤ c.fI ∧ c.fI ≤ (c.fB.length : Int) ∧ c.fB.length ≤ 1048576
theorem m72_ok {c : TL1Cur} (h : Cu c) : ∃ v c', m72 c = some (v, c') ∧ 0 ≤ v ∧ v ≤ 255 ∧ Cu c' := by
  obtain ⟨h0, h1, h2⟩ := h
  unfold m72
  by_cases hi : c.fI < (c.fB.length : Int)
  · obtain ⟨n, hn⟩ : ∃ n : Nat, c.fI = (n : Int) := ⟨c.fI.toNat, by omega⟩
    rw [if_pos hi, hn, idx_nat (show n < c.fB.length by omega), sb, w_succ (by omega)]
    exact ⟨_, _, rfl, (and255_bd _).1, (and255_bd _).2, ⟨by show (0 : Int) ≤ ((n + 1 : Nat) : Int); omega, by show ((n + 1 : Nat) : Int) ≤ (c.fB.length : Int); omega, h2⟩⟩
  · rw [if_neg hi]
    exact ⟨_, _, rfl, (and255_bd _).1, (and255_bd _).2, ⟨h0, h1, h2⟩⟩
theorem m40_ok {c : TL1Cur} (h : Cu c) {n : Nat} (h1 : 1 ≤ n) (h2 : n ≤ 256) : ∃ (v : Nat) (c' : TL1Cur), m40 c (n : Int) = some ((v : Int), c') ∧ v < n ∧ Cu c' := by
  obtain ⟨v, c', e, a1, a2, a3⟩ := m72_ok h
  unfold m40
  rw [if_neg (by omega), if_pos (by omega), e, sb]
  have hm : must ((n : Int) ≠ 0) = some () := if_pos (by omega)
  obtain ⟨u, rfl⟩ : ∃ u : Nat, v = (u : Int) := ⟨v.toNat, by omega⟩
  refine ⟨u % n, c', ?_, Nat.mod_lt _ (by omega), a3⟩
  show (must ((n : Int) ≠ 0) >>= fun _ => some (((u : Int)).tmod (n : Int), c')) = _
  rw [hm, sb, ← Int.ofNat_tmod]
theorem m37_ok {c : TL1Cur} (h : Cu c) {n : Nat} (h1 : 1 ≤ n) (h2 : n ≤ 256) : ∃ b c', m37 c (n : Int) = some (b, c') ∧ Cu c' := by
  obtain ⟨v, c', e, _, hc⟩ := m40_ok h h1 h2
  unfold m37
  rw [e, sb]
  exact ⟨_, _, rfl, hc⟩
theorem m36_ok {b : List UInt8} (h : b.length ≤ 1048576) : ∃ c, m36 b = some c ∧ Cu c := by
  unfold m36
  have go : ∀ m i : Nat, i ≤ b.length → b.length - i = m → ∀ y : Int, ∃ r, m36_L2 b y (i : Int) = some r := by
    intro m
    induction m with
    | zero => intro i h1 h2 y; rw [m36_L2, if_neg (by omega)]; exact ⟨_, rfl⟩
    | succ m ihm =>
      intro i h1 h2 y
      have hlt : i < b.length := by omega
      rw [m36_L2, if_pos (by omega), idx_nat hlt, sb, w_succ (by omega)]
      split
      · exact ihm (i + 1) (by omega) (by omega) _
      · exact ⟨_, rfl⟩
  obtain ⟨r, e⟩ := go b.length 0 (by omega) (by omega) (W64 (193017 + (b.length : Int)))
  replace e : m36_L2 b (W64 (193017 + (b.length : Int))) 0 = some r := e
  rw [e, sb]
  exact ⟨_, rfl, by show (0 : Int) ≤ 0; omega, by show (0 : Int) ≤ (b.length : Int); omega, h⟩
theorem m39_mem {c : TL1Cur} (h : Cu c) (l : List Str) (h1 : 1 ≤ l.length) (h2 : l.length ≤ 256) : ∃ x c', m39 c l = some (x, c') ∧ x ∈ l ∧ Cu c' := by
  obtain ⟨v, c', e, hv, hc⟩ := m40_ok h h1 h2
  unfold m39
  rw [e, sb]
  show ∃ x c'', (idx l (v : Int) >>= fun x4 => some (x4, c')) = some (x, c'') ∧ _
  rw [idx_nat hv, sb]
  exact ⟨_, _, rfl, List.getElem_mem hv, hc⟩
theorem all_mem {α : Type} {p : α → Bool} {l : List α} (h : l.all p = true) : ∀ x ∈ l, p x = true := List.all_eq_true.1 h

theorem idw {n : Nat} (h : n < 1000) : W64 (((n + 1 : Nat) : Int) - 1) = (n : Int) := by rw [W64, w64 (by omega) (by omega)]; omega
theorem l14Code_ok {c : TL1Cur} (h : Cu c) : ∃ t c', m_s_l14Code c = some (t, c') ∧ t.length ≤ 200 ∧ Cu c' := by
  have go : ∀ (n : Nat), n ≤ 20 → ∀ (c : TL1Cur) (s : Str), Cu c → s.length + n * 10 ≤ 200 → ∃ t l i h, m_s_l14Code_L2 c.fB c.fI c.fH s (n : Int) = some (t, l, i, h) ∧ t.length ≤ 200 ∧ Cu (TL1Cur.mk l i h) := by
    intro n
    induction n with
    | zero =>
      intro _ c s hc hs
      rw [m_s_l14Code_L2, if_neg (by omega)]
      exact ⟨_, _, _, _, rfl, by omega, hc⟩
    | succ n ihn =>
      intro hn c s hc hs
      obtain ⟨x, c1, e1, hm, h1⟩ := m39_mem hc ([[36, 97], [32], [120, 49], [49, 50], [39, 97, 39], [39, 105, 116, 92, 39, 115, 39], [39, 92, 92, 39], [61, 61], [61, 61, 61], [61, 62], [60, 61, 62], [45, 62], [63], [63, 62], [63, 62, 10], [60, 63], [60, 63, 61], [47, 47, 99, 10], [47, 47, 32, 113], [10], [43], [33], [38, 38], [58, 58], [48], [48, 48, 55], [49, 48, 48, 48, 48, 48, 48, 48, 48, 49], [36], [39], [35], [91], [93], [60], [104, 105], [9]] : List Str) (by decide) (by decide)
      have hx := of_decide_eq_true (all_mem (p := fun x : Str => decide (x.length ≤ 10)) (by decide) x hm)
      replace e1 : m39 (TL1Cur.mk c.fB c.fI c.fH) ([[36, 97], [32], [120, 49], [49, 50], [39, 97, 39], [39, 105, 116, 92, 39, 115, 39], [39, 92, 92, 39], [61, 61], [61, 61, 61], [61, 62], [60, 61, 62], [45, 62], [63], [63, 62], [63, 62, 10], [60, 63], [60, 63, 61], [47, 47, 99, 10], [47, 47, 32, 113], [10], [43], [33], [38, 38], [58, 58], [48], [48, 48, 55], [49, 48, 48, 48, 48, 48, 48, 48, 48, 49], [36], [39], [35], [91], [93], [60], [104, 105], [9]] : List Str) = some (x, c1) := e1
      rw [m_s_l14Code_L2, if_pos (by omega), e1, sb]
      show ∃ t l i h, (scat s x >>= _) = some (t, l, i, h) ∧ _
      rw [scat_eq (by omega), sb, idw (by omega)]
      exact ihn (by omega) c1 _ h1 (by rw [List.length_append]; omega)
  obtain ⟨n, c1, e1, hn, h1⟩ := m40_ok h (n := 9) (by decide) (by decide)
  replace e1 : m40 c 9 = some ((n : Int), c1) := e1
  obtain ⟨t, l, i, q, e2, ht, h2⟩ := go n (by omega) c1 [] h1 (by simp; omega)
  unfold m_s_l14Code
  rw [e1, sb]
  show ∃ t c', (m_s_l14Code_L2 c1.fB c1.fI c1.fH [] (n : Int) >>= _) = some (t, c') ∧ _
  rw [e2, sb]
  exact ⟨_, _, rfl, ht, h2⟩
theorem l4Text_ok {c : TL1Cur} (h : Cu c) : ∃ t c', m_s_l4Text c = some (t, c') ∧ t.length ≤ 200 ∧ Cu c' := by
  have go : ∀ (n : Nat), n ≤ 20 → ∀ (c : TL1Cur) (s : Str), Cu c → s.length + n * 10 ≤ 200 → ∃ t l i h, m_s_l4Text_L2 c.fB c.fI c.fH s (n : Int) = some (t, l, i, h) ∧ t.length ≤ 200 ∧ Cu (TL1Cur.mk l i h) := by
    intro n
    induction n with
    | zero =>
      intro _ c s hc hs
      rw [m_s_l4Text_L2, if_neg (by omega)]
      exact ⟨_, _, _, _, rfl, by omega, hc⟩
    | succ n ihn =>
      intro hn c s hc hs
      obtain ⟨x, c1, e1, hm, h1⟩ := m39_mem hc ([[97], [60, 98, 62], [38], [34], [39], [92], [10], [32], [37], [43], [38, 97, 109, 112, 59], [38, 35, 51, 57, 59], [37, 52, 49], [37, 52], [92, 120, 51, 67], [92, 120], [126, 122], [255], [81, 57], [38, 108, 116]] : List Str) (by decide) (by decide)
      have hx := of_decide_eq_true (all_mem (p := fun x : Str => decide (x.length ≤ 10)) (by decide) x hm)
      replace e1 : m39 (TL1Cur.mk c.fB c.fI c.fH) ([[97], [60, 98, 62], [38], [34], [39], [92], [10], [32], [37], [43], [38, 97, 109, 112, 59], [38, 35, 51, 57, 59], [37, 52, 49], [37, 52], [92, 120, 51, 67], [92, 120], [126, 122], [255], [81, 57], [38, 108, 116]] : List Str) = some (x, c1) := e1
      rw [m_s_l4Text_L2, if_pos (by omega), e1, sb]
      show ∃ t l i h, (scat s x >>= _) = some (t, l, i, h) ∧ _
      rw [scat_eq (by omega), sb, idw (by omega)]
      exact ihn (by omega) c1 _ h1 (by rw [List.length_append]; omega)
  obtain ⟨n, c1, e1, hn, h1⟩ := m40_ok h (n := 5) (by decide) (by decide)
  replace e1 : m40 c 5 = some ((n : Int), c1) := e1
  obtain ⟨t, l, i, q, e2, ht, h2⟩ := go n (by omega) c1 [] h1 (by simp; omega)
  unfold m_s_l4Text
  rw [e1, sb]
  show ∃ t c', (m_s_l4Text_L2 c1.fB c1.fI c1.fH [] (n : Int) >>= _) = some (t, c') ∧ _
  rw [e2, sb]
  exact ⟨_, _, rfl, ht, h2⟩
theorem drawLex_fill : ∀ (m k : Nat) (s : Str), k = s.length + m → 4000 < k → s.length ≤ 5000 → ∃ t, m_s_DrawLex_L4 s = some t ∧ 4000 < t.length ∧ t.length ≤ 5000
  | 0, k, s, h1, h3, h2 => by
    unfold m_s_DrawLex_L4
    rw [if_neg (by omega)]
    exact ⟨_, rfl, by omega, h2⟩
  | m + 1, k, s, h1, h3, h2 => by
    have hl : (s ++ [32, 36, 97, 98, 32, 59] : Str).length = s.length + 6 := List.length_append
    unfold m_s_DrawLex_L4
    by_cases h : (s.length : Int) < 4001
    · rw [if_pos h, scat_eq (by simp only [List.length_cons, List.length_nil]; omega), sb]
      exact drawLex_fill m (k + 5) _ (by rw [hl]; omega) (by omega) (by rw [hl]; omega)
    · rw [if_neg h]; exact ⟨_, rfl, by omega, h2⟩
theorem drawLex_ok {b : List UInt8} (h : b.length ≤ 1048576) : ∃ t, m_s_DrawLex b = some t ∧ t.length ≤ 5000 := by
  unfold m_s_DrawLex
  obtain ⟨c, e, hc⟩ := m36_ok h
  obtain ⟨g, c1, e1, h1⟩ := m37_ok hc (n := 5) (by decide) (by decide)
  replace e1 : m37 c 5 = some (g, c1) := e1
  rw [e, sb, e1, sb]
  show ∃ t, (if g = true then _ else _) = some t ∧ _
  split
  · obtain ⟨t, c2, e2, ht, h2⟩ := l14Code_ok h1
    rw [e2, sb]
    exact ⟨_, rfl, by omega⟩
  · obtain ⟨x, c2, e2, hm, h2⟩ := m39_mem h1 ([[60, 63], [60, 63, 32], [97, 60, 63], [60, 63, 61]] : List Str) (by decide) (by decide)
    have hx := of_decide_eq_true (all_mem (p := fun x : Str => decide (x.length ≤ 10)) (by decide) x hm)
    obtain ⟨t, c3, e3, ht, h3⟩ := l14Code_ok h2
    obtain ⟨g2, c4, e4, h4⟩ := m37_ok h3 (n := 20) (by decide) (by decide)
    replace e4 : m37 c3 20 = some (g2, c4) := e4
    rw [e2, sb]
    show ∃ t, (m_s_l14Code c2 >>= _) = some t ∧ _
    rw [e3, sb]
    show ∃ t', (scat x t >>= _) = some t' ∧ _
    rw [scat_eq (by omega), sb]
    show ∃ t', ((m37 c3 20 >>= _) >>= _) = some t' ∧ _
    rw [e4, sb]
    show ∃ t', ((if g2 = true then _ else _) >>= _) = some t' ∧ _
    cases g2 with
    | true =>
      obtain ⟨f, e5, f0, f1⟩ := drawLex_fill 4001 _ (x ++ t) rfl (by omega) (by rw [List.length_append]; omega)
      obtain ⟨v, c5, e6, hv, h5⟩ := m40_ok h4 (n := 2) (by decide) (by decide)
      replace e6 : m40 c4 2 = some ((v : Int), c5) := e6
      rw [if_pos rfl, e5, sb, e6, sb]
      show ∃ t', ((sto f (W64 (4000 + (v : Int))) >>= _) >>= _) = some t' ∧ _
      rw [w_of (x := 4000 + (v : Int)) (n := 4000 + v) (by omega) (by omega)]
      have e7 : sto f ((4000 + v : Nat) : Int) = some (f.take (4000 + v)) := by unfold sto; rw [if_pos ⟨by omega, by omega⟩]; rfl
      rw [e7, sb, sb]
      exact ⟨_, rfl, by rw [List.length_take]; omega⟩
    | false =>
      rw [if_neg (by decide), sb]
      exact ⟨_, rfl, by rw [List.length_append]; omega⟩
theorem drawQuote_ok {b : List UInt8} (h : b.length ≤ 1048576) : ∃ t, m_s_DrawQuoteText b = some t ∧ t.length ≤ 200 := by
  unfold m_s_DrawQuoteText
  obtain ⟨c, e, hc⟩ := m36_ok h
  obtain ⟨t, c2, e2, ht, h2⟩ := l4Text_ok hc
  rw [e, sb, e2, sb]
  exact ⟨_, rfl, ht⟩

end Go.Am
