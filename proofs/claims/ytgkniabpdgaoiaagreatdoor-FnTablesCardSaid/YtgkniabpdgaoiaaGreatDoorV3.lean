/- The draws: what they draw is small. -/
import Derived.Test.YtgkniabpdgaoiaaGreatDoorV1
import Derived.Test.YtgkniabpdgaoiaaGreatDoorF4
set_option linter.unusedVariables false
set_option linter.unusedSimpArgs false
namespace Go.Am
open Go Go.RowKit Go.Proofs
theorem and255_bd (v : Int) : 0 ≤ bits .and .i64 v 255 ∧ bits .and .i64 v 255 ≤ 255 := by
 unfold bits
 have e2 : BitVec.ofInt IntKind.i64.bits 255 = BitVec.ofNat 64 255 := by rfl
 simp only [e2]
 have h : (BitVec.ofInt 64 v &&& BitVec.ofNat 64 255).toNat ≤ 255 := by
  rw [BitVec.toNat_and]
  exact Nat.and_le_right
 show 0 ≤ IntKind.i64.wrap ((BitVec.ofInt 64 v &&& BitVec.ofNat 64 255).toNat : Int) ∧ IntKind.i64.wrap ((BitVec.ofInt 64 v &&& BitVec.ofNat 64 255).toNat : Int) ≤ 255
 rw [w64 (by omega) (by omega)]
 omega
def Cu (c : TL1Cur) : Prop := 0 ≤ c.fI ∧ c.fI ≤ (c.fB.length : Int) ∧ c.fB.length ≤ 1048576
theorem m72_ok {c : TL1Cur} (h : Cu c) : ∃ v c', m72 c = some (v, c') ∧ 0 ≤ v ∧ v ≤ 255 ∧ Cu c' := by
 obtain ⟨h0, h1, h2⟩ := h
 unfold m72
 by_cases hi : c.fI < (c.fB.length : Int)
 ·obtain ⟨n, hn⟩ : ∃ n : Nat, c.fI = (n : Int) := ⟨c.fI.toNat, by omega⟩
  rw [if_pos hi, hn, idx_nat (show n < c.fB.length by omega), sb, w_succ (by omega)]
  exact ⟨_, _, rfl, (and255_bd _).1, (and255_bd _).2, ⟨by show (0 : Int) ≤ ((n + 1 : Nat) : Int); omega, by show ((n + 1 : Nat) : Int) ≤ (c.fB.length : Int); omega, h2⟩⟩
 ·rw [if_neg hi]
  exact ⟨_, _, rfl, (and255_bd _).1, (and255_bd _).2, ⟨h0, h1, h2⟩⟩
theorem m40_ok {c : TL1Cur} (h : Cu c) {n : Nat} (h1 : 1 ≤ n) (h2 : n ≤ 256) : ∃ (v : Nat) (c' : TL1Cur), m40 c (n : Int) = some ((v : Int), c') ∧ v < n ∧ Cu c' := by
 obtain ⟨v, c', e, a1, a2, a3⟩ := m72_ok h
 unfold m40
 rw [if_neg (by omega), if_pos (by omega), e, sb]
 have hm : must ((n : Int) ≠ 0) = some () := if_pos (by omega)
 obtain ⟨u, rfl⟩ : ∃ u : Nat, v = (u : Int) := ⟨v.toNat, by omega⟩
 refine ⟨u % n, c', ?_, Nat.mod_lt _ (by omega), a3⟩
 show (must ((n : Int) ≠ 0) >>= fun _ => some (((u : Int)).tmod (n : Int), c')) = _
 rw [hm, sb, ← Int.ofNat_tmod]
theorem m37_ok {c : TL1Cur} (h : Cu c) {n : Nat} (h1 : 1 ≤ n) (h2 : n ≤ 256) : ∃ b c', m37 c (n : Int) = some (b, c') ∧ Cu c' := by
 obtain ⟨v, c', e, _, hc⟩ := m40_ok h h1 h2
 unfold m37
 rw [e, sb]
 exact ⟨_, _, rfl, hc⟩
theorem m85_ok {c : TL1Cur} (h : Cu c) (l : List Int) (h1 : 1 ≤ l.length) (h2 : l.length ≤ 256) : ∃ x c', m85 c l = some (x, c') ∧ Cu c' := by
 obtain ⟨v, c', e, hv, hc⟩ := m40_ok h h1 h2
 unfold m85
 rw [e, sb]
 show ∃ x c'', (idx l (v : Int) >>= fun x4 => some (x4, c')) = some (x, c'') ∧ Cu c''
 rw [idx_nat hv, sb]
 exact ⟨_, _, rfl, hc⟩
theorem m39_ok {c : TL1Cur} (h : Cu c) (l : List Str) (h1 : 1 ≤ l.length) (h2 : l.length ≤ 256) : ∃ x c', m39 c l = some (x, c') ∧ Cu c' := by
 obtain ⟨v, c', e, hv, hc⟩ := m40_ok h h1 h2
 unfold m39
 rw [e, sb]
 show ∃ x c'', (idx l (v : Int) >>= fun x4 => some (x4, c')) = some (x, c'') ∧ Cu c''
 rw [idx_nat hv, sb]
 exact ⟨_, _, rfl, hc⟩
theorem m107_ok {c : TL1Cur} (h : Cu c) : ∃ x c', m107 c = some (x, c') ∧ Cu c' := by
 unfold m107
 obtain ⟨x, c', e, hc⟩ := m39_ok h ([[], [97], [98], [120, 49], [48], [53], [45, 53], [48, 53], [45, 48], [49, 50, 97], [48, 48, 55], [49, 48, 48, 48, 48, 48, 48, 48, 48, 48], [49, 48, 48, 48, 48, 48, 48, 48, 48, 49], [32, 49], [105, 116, 39, 115], [10], [60, 105, 62], [255, 59], [110, 97, 109, 101], [115, 58, 49, 58]] : List Str) (by decide) (by decide)
 rw [e, sb]
 exact ⟨_, _, rfl, hc⟩
theorem m47_ok {c : TL1Cur} (h : Cu c) : ∃ x c', m47 c = some (x, c') ∧ Cu c' := by
 unfold m47
 obtain ⟨b, c1, e1, h1⟩ := m37_ok h (n := 3) (by decide) (by decide)
 replace e1 : m37 c 3 = some (b, c1) := e1
 rw [e1, sb]
 show ∃ x c', (if b = true then _ else _) = some (x, c') ∧ Cu c'
 split
 ·obtain ⟨x, c', e, hc⟩ := m39_ok h1 ([[97], [98], [99], [], [48, 53], [120]] : List Str) (by decide) (by decide)
  rw [e, sb]
  exact ⟨_, _, rfl, hc⟩
 ·obtain ⟨x, c', e, hc⟩ := m85_ok h1 ([0, 1, 2, 3, 4, (-1), 7, 1000000000, (-1000000000)] : List Int) (by decide) (by decide)
  rw [e, sb]
  exact ⟨_, _, rfl, hc⟩
theorem m48_ok {c : TL1Cur} (h : Cu c) : ∃ x c', m48 c = some (x, c') ∧ Cu c' := by
 unfold m48
 obtain ⟨x, c', e, hc⟩ := m85_ok h ([(-1), 0, 1, 2, 255, 256, 65535, 2147483647, 2147483648, 4294967295, 4294967296, (-2147483648), 9223372036854775807, (-9223372036854775808)] : List Int) (by decide) (by decide)
 rw [e, sb]
 exact ⟨_, _, rfl, hc⟩
def Bd : Nat → Nat
 | 0 => 1
 | d + 1 => 1 + 10 * Bd d
theorem Bd_pos : ∀ d, 1 ≤ Bd d
 | 0 => Nat.le_refl _
 | d + 1 => by unfold Bd; omega
theorem dv_flat (a b : Int) (s : Str) (n : Int) : (TValue.mk a b s n []).wt = 1 := by rw [TValue.wt_eq]; rfl
theorem m89_ok {c : TL1Cur} (h : Cu c) : ∃ x c', m89 c = some (x, c') ∧ x.wt = 1 ∧ Cu c' := by
 unfold m89
 obtain ⟨v, c1, e1, hv, h1⟩ := m40_ok h (n := 8) (by decide) (by decide)
 replace e1 : m40 c 8 = some ((v : Int), c1) := e1
 rw [e1, sb]
 show ∃ (x : TValue) (c' : TL1Cur), (if (v : Int) = 0 then _ else _) = some (x, c') ∧ x.wt = 1 ∧ Cu c'
 split
 ·exact ⟨_, _, rfl, dv_flat _ _ _ _, h1⟩
 split
 ·obtain ⟨b, c2, e2, h2⟩ := m37_ok h1 (n := 2) (by decide) (by decide)
  replace e2 : m37 c1 2 = some (b, c2) := e2
  rw [e2, sb]
  show ∃ (x : TValue) (c' : TL1Cur), (m105 b >>= _) = some (x, c') ∧ x.wt = 1 ∧ Cu c'
  unfold m105
  split <;> exact ⟨_, _, rfl, dv_flat _ _ _ _, h2⟩
 have tail : ∀ b : Bool, ∃ (x : TValue) (c' : TL1Cur), (if b = true then m107 c1 >>= fun (v17, v18) => some ((TValue.mk 3 0 v17 0 []), v18) else
    (if (v : Int) = 4 then
     m85 c1 ([0, 1, (-1), 5, 10, 999999999, 1000000000, (-1000000000)] : List Int) >>= fun (v21, v22) =>
     some ((TValue.mk 2 v21 [] 0 []), v22)
    else
     m40 c1 20 >>= fun (v24, v25) =>
     some ((TValue.mk 2 (W64 (v24 - 5)) [] 0 []), v25))) = some (x, c') ∧ x.wt = 1 ∧ Cu c' := fun b => by
  split
  ·obtain ⟨x, c2, e2, h2⟩ := m107_ok h1
   rw [e2, sb]
   exact ⟨_, _, rfl, dv_flat _ _ _ _, h2⟩
  split
  ·obtain ⟨x, c2, e2, h2⟩ := m85_ok h1 ([0, 1, (-1), 5, 10, 999999999, 1000000000, (-1000000000)] : List Int) (by decide) (by decide)
   rw [e2, sb]
   exact ⟨_, _, rfl, dv_flat _ _ _ _, h2⟩
  ·obtain ⟨x, c2, e2, _, h2⟩ := m40_ok h1 (n := 20) (by decide) (by decide)
   replace e2 : m40 c1 20 = some ((x : Int), c2) := e2
   rw [e2, sb]
   exact ⟨_, _, rfl, dv_flat _ _ _ _, h2⟩
 split
 ·exact tail _
 ·exact tail _
theorem idw {n : Nat} (h : n < 1000) : W64 (((n + 1 : Nat) : Int) - 1) = (n : Int) := by rw [W64, w64 (by omega) (by omega)]; omega
theorem m50_ok : ∀ (d : Nat), d < 100 → ∀ c : TL1Cur, Cu c → ∃ (x : TValue) (c' : TL1Cur), m50 c (d : Int) = some (x, c') ∧ x.wt ≤ Bd d ∧ Cu c' := by
 intro d
 induction d with
 | zero =>
  intro _ c h
  obtain ⟨x, c', e, hd, hc⟩ := m89_ok h
  rw [m50, if_pos (by omega), e, sb]
  exact ⟨_, _, rfl, Nat.le_of_eq hd, hc⟩
 | succ d ihd =>
  intro hd c h
  have go : ∀ (n : Nat), n ≤ 10 → ∀ (c : TL1Cur) (y : Int) (l : List TEntry), Cu c → l.length + n ≤ 10 → TEntry.wtL l ≤ l.length * Bd d →
    ∃ b i q y' l', m50_L2 ((d + 1 : Nat) : Int) c.fB c.fI c.fH y l (n : Int) = some (b, i, q, y', l') ∧ Cu (TL1Cur.mk b i q) ∧ l'.length ≤ 10 ∧ TEntry.wtL l' ≤ 10 * Bd d := by
   intro n
   induction n with
   | zero =>
    intro _ c y l hc hl hs
    rw [m50_L2, if_neg (by omega)]
    exact ⟨_, _, _, _, _, rfl, hc, by omega, Nat.le_trans hs (Nat.mul_le_mul_right _ (by omega))⟩
   | succ n ihn =>
    intro hn c y l hc hl hs
    obtain ⟨k, c1, e1, h1⟩ := m47_ok hc
    obtain ⟨b, c2, e2, h2⟩ := m37_ok h1 (n := 2) (by decide) (by decide)
    replace e1 : m47 (TL1Cur.mk c.fB c.fI c.fH) = some (k, c1) := e1
    replace e2 : m37 c1 2 = some (b, c2) := e2
    have go2 : ∀ k : TKey, ∃ b i q y' l', (m90 (TValue.mk 4 0 [] y l) (TKey.mk k.fText k.fNum k.fStr) >>= fun v50 =>
      (if v50 < 0 then
       m50 (TL1Cur.mk c2.fB c2.fI c2.fH) (W64 (((d + 1 : Nat) : Int) - 1)) >>= fun (v53, v54) =>
       lapp 96 l ([(TEntry.mk (TKey.mk k.fText k.fNum k.fStr) v53)] : List TEntry) >>= fun l56 =>
       (if k.fText = true then
        m50_L2 ((d + 1 : Nat) : Int) v54.fB v54.fI v54.fH y l56 (W64 (((n + 1 : Nat) : Int) - 1))
       else
        m91 y (W64 (k.fNum + 1)) >>= fun v59 =>
        m50_L2 ((d + 1 : Nat) : Int) v54.fB v54.fI v54.fH v59 l56 (W64 (((n + 1 : Nat) : Int) - 1)))
      else
       m50_L2 ((d + 1 : Nat) : Int) c2.fB c2.fI c2.fH y l (W64 (((n + 1 : Nat) : Int) - 1)))) = some (b, i, q, y', l') ∧ Cu (TL1Cur.mk b i q) ∧ l'.length ≤ 10 ∧ TEntry.wtL l' ≤ 10 * Bd d := fun k => by
     obtain ⟨r, e9, _, _⟩ := m90_some (TValue.mk 4 0 [] y l) (TKey.mk k.fText k.fNum k.fStr) (show l.length ≤ 2000000 by omega)
     rw [e9, sb, idw (show n < 1000 by omega), idw (show d < 1000 by omega)]
     split
     ·obtain ⟨x, c3, e3, hx, h3⟩ := ihd (by omega) c2 h2
      replace e3 : m50 (TL1Cur.mk c2.fB c2.fI c2.fH) (d : Int) = some (x, c3) := e3
      rw [e3, sb]
      show ∃ b i q y' l', (lapp 96 l [TEntry.mk (TKey.mk k.fText k.fNum k.fStr) x] >>= _) = some (b, i, q, y', l') ∧ _
      rw [lapp_eq (by simp only [List.length_cons, List.length_nil]; omega), sb]
      have hs' : TEntry.wtL (l ++ [TEntry.mk (TKey.mk k.fText k.fNum k.fStr) x]) ≤ (l ++ [TEntry.mk (TKey.mk k.fText k.fNum k.fStr) x]).length * Bd d := by
       rw [wtL_app, wtL_cons, wtL_nil, List.length_append, Nat.add_mul]
       have hx' : (TEntry.mk (TKey.mk k.fText k.fNum k.fStr) x).fVal.wt ≤ Bd d := hx
       simp only [List.length_singleton, Nat.one_mul]
       omega
      split
      ·exact ihn (by omega) c3 y _ h3 (by simp; omega) hs'
      ·rw [m91_eq, sb]
       exact ihn (by omega) c3 _ _ h3 (by simp; omega) hs'
     ·exact ihn (by omega) c2 y l h2 (by omega) hs
    rw [m50_L2, if_pos (by omega), e1, sb]
    show ∃ b i q y' l', ((m37 c1 2 >>= _) >>= _) = some (b, i, q, y', l') ∧ _
    rw [e2, sb]
    show ∃ b0 i q y' l', ((if b = true then _ else _) >>= _) = some (b0, i, q, y', l') ∧ _
    split
    ·split
     ·exact go2 (TKey.mk false y [])
     ·exact go2 k
    ·exact go2 k
  rw [m50, if_neg (by omega)]
  obtain ⟨b, c1, e1, h1⟩ := m37_ok h (n := 3) (by decide) (by decide)
  replace e1 : m37 c 3 = some (b, c1) := e1
  rw [e1, sb]
  show ∃ (x : TValue) (c' : TL1Cur), (if b = true then _ else _) = some (x, c') ∧ x.wt ≤ Bd (d + 1) ∧ Cu c'
  split
  ·obtain ⟨n, c2, e2, hn, h2⟩ := m40_ok h1 (n := 5) (by decide) (by decide)
   replace e2 : m40 c1 5 = some ((n : Int), c2) := e2
   obtain ⟨b', i', q', y', l', e3, h3, h4, h5⟩ := go n (by omega) c2 0 [] h2 (by simp; omega) (by rw [wtL_nil]; omega)
   rw [e2, sb]
   show ∃ (x : TValue) (c' : TL1Cur), (m50_L2 ((d + 1 : Nat) : Int) c2.fB c2.fI c2.fH 0 [] (n : Int) >>= _) = some (x, c') ∧ x.wt ≤ Bd (d + 1) ∧ Cu c'
   rw [e3, sb]
   exact ⟨_, _, rfl, by rw [TValue.wt_eq]; unfold Bd; show 1 + TEntry.wtL l' ≤ _; omega, h3⟩
  ·obtain ⟨x, c', e, hd, hc⟩ := m89_ok h1
   rw [e, sb]
   exact ⟨_, _, rfl, by have := Bd_pos (d + 1); omega, hc⟩
def Dv2 (v : TValue) : Prop := v.wt ≤ 2000
theorem Dv2.sm {v : TValue} (h : Dv2 v) : Sm v := sm_wt (by have : v.wt ≤ 2000 := h; omega)
theorem Dv2.len {v : TValue} (h : Dv2 v) : v.fItems.length < 2000 := by have := wt_len (v := v); have : v.wt ≤ 2000 := h; omega
theorem m88_ok {c : TL1Cur} (h : Cu c) : ∃ x c', m88 c = some (x, c') ∧ Dv2 x ∧ Cu c' := by
 unfold m88
 obtain ⟨x, c1, e1, hx, h1⟩ := m50_ok 3 (by decide) c h
 replace e1 : m50 c 3 = some (x, c1) := e1
 replace hx : x.wt ≤ 1111 := hx
 have hx2 := hx
 rw [TValue.wt_eq] at hx2
 have hlen := wtL_len x.fItems
 obtain ⟨n, c2, e2, hn, h2⟩ := m40_ok h1 (n := 14) (by decide) (by decide)
 replace e2 : m40 c1 14 = some ((n : Int), c2) := e2
 rw [e1, sb]
 show ∃ y c', (m40 c1 14 >>= _) = some (y, c') ∧ Dv2 y ∧ Cu c'
 rw [e2, sb]
 show ∃ y c', (if (n : Int) = 0 then _ else _) = some (y, c') ∧ Dv2 y ∧ Cu c'
 have sm : ∀ a b s d, Dv2 (.mk a b s d x.fItems) := fun a b s d => by show TValue.wt _ ≤ 2000; rw [TValue.wt_eq, TValue.fItems_mk]; omega
 split
 ·obtain ⟨y, c3, e3, h3⟩ := m48_ok h2
  rw [e3, sb]
  exact ⟨_, _, rfl, sm _ _ _ _, h3⟩
 split
 ·obtain ⟨y, c3, e3, h3⟩ := m48_ok h2
  rw [e3, sb]
  exact ⟨_, _, rfl, sm _ _ _ _, h3⟩
 split
 ·obtain ⟨y, c3, e3, h3⟩ := m85_ok h2 ([(-1), 4, 5, 6, 7, 8, 9] : List Int) (by decide) (by decide)
  rw [e3, sb]
  exact ⟨_, _, rfl, sm _ _ _ _, h3⟩
 try rw [sb]
 split
 ·obtain ⟨k, c3, e3, h3⟩ := m47_ok h2
  obtain ⟨y, c4, e4, hy, h4⟩ := m89_ok h3
  rw [e3, sb]
  show ∃ y c', (m89 c3 >>= _) = some (y, c') ∧ Dv2 y ∧ Cu c'
  rw [e4, sb]
  show ∃ z c', (lapp 96 x.fItems [TEntry.mk k y] >>= _) = some (z, c') ∧ Dv2 z ∧ Cu c'
  rw [lapp_eq (by simp only [List.length_cons, List.length_nil]; omega), sb]
  refine ⟨_, _, rfl, ?_, h4⟩
  show TValue.wt _ ≤ 2000
  rw [TValue.wt_eq, TValue.fItems_mk, wtL_app, wtL_cons, wtL_nil]
  have hy' : (TEntry.mk k y).fVal.wt = 1 := hy
  omega
 split
 ·obtain ⟨p, c3, e3, _, h3⟩ := m40_ok h2 (n := 3) (by decide) (by decide)
  replace e3 : m40 c2 3 = some ((p : Int), c3) := e3
  obtain ⟨q, c4, e4, _, h4⟩ := m40_ok h3 (n := 3) (by decide) (by decide)
  replace e4 : m40 c3 3 = some ((q : Int), c4) := e4
  rw [e3, sb]
  show ∃ y c', (m40 c3 3 >>= _) = some (y, c') ∧ Dv2 y ∧ Cu c'
  rw [e4, sb]
  exact ⟨_, _, rfl, by show TValue.wt _ ≤ 2000; rw [dv_flat]; omega, h4⟩
 ·exact ⟨_, _, rfl, by show x.wt ≤ 2000; omega, h2⟩
theorem m87_ok {v x : TValue} (hv : v.wt + x.wt ≤ 5000) (k : TKey) : ∃ w, m87 v k x = some w ∧ w.wt ≤ v.wt + x.wt := by
 have hlen := wt_len (v := v)
 obtain ⟨r, e9, h0, h1⟩ := m90_some v k (by omega)
 unfold m87
 rw [lapp_eq (by simp only [List.length_nil]; omega), sb, sb, e9, sb, List.nil_append]
 by_cases hr : r ≥ 0
 ·obtain ⟨j, rfl⟩ : ∃ j : Nat, r = (j : Int) := ⟨r.toNat, by omega⟩
  rw [if_pos hr, idx_nat (show j < v.fItems.length by omega), sb, sb]
  refine ⟨_, rfl, ?_⟩
  rw [TValue.wt_eq, TValue.fItems_mk, v.wt_eq]
  have := wtL_set v.fItems ((j : Int).toNat) (TEntry.mk v.fItems[j].fKey x)
  have e : (TEntry.mk v.fItems[j].fKey x).fVal.wt = x.wt := rfl
  omega
 ·have sm : ∀ n, (TValue.mk v.fKind v.fNum v.fStr n (v.fItems ++ [TEntry.mk k x])).wt ≤ v.wt + x.wt := fun n => by
   rw [TValue.wt_eq, TValue.fItems_mk, wtL_app, wtL_cons, wtL_nil, v.wt_eq]
   have e : (TEntry.mk k x).fVal.wt = x.wt := rfl
   omega
  rw [if_neg hr, sb, lapp_eq (by simp only [List.length_cons, List.length_nil]; omega), sb]
  try rw [sb]
  by_cases ht : k.fText = true
  ·rw [if_pos ht]; exact ⟨_, rfl, sm _⟩
  ·rw [if_neg ht, m91_eq, sb]; exact ⟨_, rfl, sm _⟩
theorem m36_ok {b : List UInt8} (h : b.length ≤ 1048576) : ∃ c, m36 b = some c ∧ Cu c := by
 unfold m36
 have go : ∀ m i : Nat, i ≤ b.length → b.length - i = m → ∀ y : Int, ∃ r, m36_L2 b y (i : Int) = some r := by
  intro m
  induction m with
  | zero => intro i h1 h2 y; rw [m36_L2, if_neg (by omega)]; exact ⟨_, rfl⟩
  | succ m ihm =>
   intro i h1 h2 y
   have hlt : i < b.length := by omega
   rw [m36_L2, if_pos (by omega), idx_nat hlt, sb, w_succ (by omega)]
   split
   ·exact ihm (i + 1) (by omega) (by omega) _
   ·exact ⟨_, rfl⟩
 obtain ⟨r, e⟩ := go b.length 0 (by omega) (by omega) (W64 (193017 + (b.length : Int)))
 replace e : m36_L2 b (W64 (193017 + (b.length : Int))) 0 = some r := e
 rw [e, sb]
 exact ⟨_, rfl, by show (0 : Int) ≤ 0; omega, by show (0 : Int) ≤ (b.length : Int); omega, h⟩
end Go.Am
