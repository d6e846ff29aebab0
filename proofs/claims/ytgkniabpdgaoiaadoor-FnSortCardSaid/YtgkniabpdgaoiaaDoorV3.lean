/- The draws: what they draw is small. -/
import Derived.Test.YtgkniabpdgaoiaaDoorV1
import Derived.Test.YtgkniabpdgaoiaaDoorF4
set_option linter.unusedVariables false
set_option linter.unusedSimpArgs false
namespace Go.Am
open Go Go.RowKit Go.Proofs
theorem and255_bd (v : Int) : 0 ≤ bits .and .i64 v 255 ∧ bits .and .i64 v 255 ≤ 255 := by
 unfold bits
 have e2 : BitVec.ofInt IntKind.i64.bits 255 = BitVec.ofNat 64 255 := by rfl
 simp only [e2]
 have h : (BitVec.ofInt 64 v &&& BitVec.ofNat 64 255).toNat ≤ 255 := by
  rw [BitVec.toNat_and]
  exact Nat.and_le_right
 show 0 ≤ IntKind.i64.wrap ((BitVec.ofInt 64 v &&& BitVec.ofNat 64 255).toNat : Int) ∧ IntKind.i64.wrap ((BitVec.ofInt 64 v &&& BitVec.ofNat 64 255).toNat : Int) ≤ 255
 rw [w64 (by omega) (by omega)]
 omega
def Cu (c : TL1Cur) : Prop := 0 ≤ c.fI ∧ c.fI ≤ (c.fB.length : Int) ∧ c.fB.length ≤ 1048576
theorem m72_ok {c : TL1Cur} (h : Cu c) : ∃ v c', m72 c = some (v, c') ∧ 0 ≤ v ∧ v ≤ 255 ∧ Cu c' := by
 obtain ⟨h0, h1, h2⟩ := h
 unfold m72
 by_cases hi : c.fI < (c.fB.length : Int)
 ·obtain ⟨n, hn⟩ : ∃ n : Nat, c.fI = (n : Int) := ⟨c.fI.toNat, by omega⟩
  rw [if_pos hi, hn, idx_nat (show n < c.fB.length by omega), sb, w_succ (by omega)]
  exact ⟨_, _, rfl, (and255_bd _).1, (and255_bd _).2, ⟨by show (0 : Int) ≤ ((n + 1 : Nat) : Int); omega, by show ((n + 1 : Nat) : Int) ≤ (c.fB.length : Int); omega, h2⟩⟩
 ·rw [if_neg hi]
  exact ⟨_, _, rfl, (and255_bd _).1, (and255_bd _).2, ⟨h0, h1, h2⟩⟩
theorem m40_ok {c : TL1Cur} (h : Cu c) {n : Nat} (h1 : 1 ≤ n) (h2 : n ≤ 256) : ∃ (v : Nat) (c' : TL1Cur), m40 c (n : Int) = some ((v : Int), c') ∧ v < n ∧ Cu c' := by
 obtain ⟨v, c', e, a1, a2, a3⟩ := m72_ok h
 unfold m40
 rw [if_neg (by omega), if_pos (by omega), e, sb]
 have hm : must ((n : Int) ≠ 0) = some () := if_pos (by omega)
 obtain ⟨u, rfl⟩ : ∃ u : Nat, v = (u : Int) := ⟨v.toNat, by omega⟩
 refine ⟨u % n, c', ?_, Nat.mod_lt _ (by omega), a3⟩
 show (must ((n : Int) ≠ 0) >>= fun _ => some (((u : Int)).tmod (n : Int), c')) = _
 rw [hm, sb, ← Int.ofNat_tmod]
theorem m37_ok {c : TL1Cur} (h : Cu c) {n : Nat} (h1 : 1 ≤ n) (h2 : n ≤ 256) : ∃ b c', m37 c (n : Int) = some (b, c') ∧ Cu c' := by
 obtain ⟨v, c', e, _, hc⟩ := m40_ok h h1 h2
 unfold m37
 rw [e, sb]
 exact ⟨_, _, rfl, hc⟩
theorem m85_ok {c : TL1Cur} (h : Cu c) (l : List Int) (h1 : 1 ≤ l.length) (h2 : l.length ≤ 256) : ∃ x c', m85 c l = some (x, c') ∧ Cu c' := by
 obtain ⟨v, c', e, hv, hc⟩ := m40_ok h h1 h2
 unfold m85
 rw [e, sb]
 show ∃ x c'', (idx l (v : Int) >>= fun x4 => some (x4, c')) = some (x, c'') ∧ Cu c''
 rw [idx_nat hv, sb]
 exact ⟨_, _, rfl, hc⟩
theorem m39_ok {c : TL1Cur} (h : Cu c) (l : List Str) (h1 : 1 ≤ l.length) (h2 : l.length ≤ 256) : ∃ x c', m39 c l = some (x, c') ∧ Cu c' := by
 obtain ⟨v, c', e, hv, hc⟩ := m40_ok h h1 h2
 unfold m39
 rw [e, sb]
 show ∃ x c'', (idx l (v : Int) >>= fun x4 => some (x4, c')) = some (x, c'') ∧ Cu c''
 rw [idx_nat hv, sb]
 exact ⟨_, _, rfl, hc⟩
theorem m107_ok {c : TL1Cur} (h : Cu c) : ∃ x c', m107 c = some (x, c') ∧ Cu c' := by
 unfold m107
 obtain ⟨x, c', e, hc⟩ := m39_ok h ([[], [97], [98], [120, 49], [48], [53], [45, 53], [48, 53], [45, 48], [49, 50, 97], [48, 48, 55], [49, 48, 48, 48, 48, 48, 48, 48, 48, 48], [49, 48, 48, 48, 48, 48, 48, 48, 48, 49], [32, 49], [105, 116, 39, 115], [10], [60, 105, 62], [255, 59], [110, 97, 109, 101], [115, 58, 49, 58]] : List Str) (by decide) (by decide)
 rw [e, sb]
 exact ⟨_, _, rfl, hc⟩
theorem m47_ok {c : TL1Cur} (h : Cu c) : ∃ x c', m47 c = some (x, c') ∧ Cu c' := by
 unfold m47
 obtain ⟨b, c1, e1, h1⟩ := m37_ok h (n := 3) (by decide) (by decide)
 replace e1 : m37 c 3 = some (b, c1) := e1
 rw [e1, sb]
 show ∃ x c', (if b = true then _ else _) = some (x, c') ∧ Cu c'
 split
 ·obtain ⟨x, c', e, hc⟩ := m39_ok h1 ([[97], [98], [99], [], [48, 53], [120]] : List Str) (by decide) (by decide)
  rw [e, sb]
  exact ⟨_, _, rfl, hc⟩
 ·obtain ⟨x, c', e, hc⟩ := m85_ok h1 ([0, 1, 2, 3, 4, (-1), 7, 1000000000, (-1000000000)] : List Int) (by decide) (by decide)
  rw [e, sb]
  exact ⟨_, _, rfl, hc⟩
def Bd : Nat → Nat
 | 0 => 1
 | d + 1 => 1 + 10 * Bd d
theorem Bd_pos : ∀ d, 1 ≤ Bd d
 | 0 => Nat.le_refl _
 | d + 1 => by unfold Bd; omega
theorem dv_flat (a b : Int) (s : Str) (n : Int) : (TValue.mk a b s n []).wt = 1 := by rw [TValue.wt_eq]; rfl
theorem idw {n : Nat} (h : n < 1000) : W64 (((n + 1 : Nat) : Int) - 1) = (n : Int) := by rw [W64, w64 (by omega) (by omega)]; omega
def Dv2 (v : TValue) : Prop := v.wt ≤ 2000
theorem Dv2.len {v : TValue} (h : Dv2 v) : v.fItems.length < 2000 := by have := wt_len (v := v); have : v.wt ≤ 2000 := h; omega
theorem m36_ok {b : List UInt8} (h : b.length ≤ 1048576) : ∃ c, m36 b = some c ∧ Cu c := by
 unfold m36
 have go : ∀ m i : Nat, i ≤ b.length → b.length - i = m → ∀ y : Int, ∃ r, m36_L2 b y (i : Int) = some r := by
  intro m
  induction m with
  | zero => intro i h1 h2 y; rw [m36_L2, if_neg (by omega)]; exact ⟨_, rfl⟩
  | succ m ihm =>
   intro i h1 h2 y
   have hlt : i < b.length := by omega
   rw [m36_L2, if_pos (by omega), idx_nat hlt, sb, w_succ (by omega)]
   split
   ·exact ihm (i + 1) (by omega) (by omega) _
   ·exact ⟨_, rfl⟩
 obtain ⟨r, e⟩ := go b.length 0 (by omega) (by omega) (W64 (193017 + (b.length : Int)))
 replace e : m36_L2 b (W64 (193017 + (b.length : Int))) 0 = some r := e
 rw [e, sb]
 exact ⟨_, rfl, by show (0 : Int) ≤ 0; omega, by show (0 : Int) ≤ (b.length : Int); omega, h⟩
end Go.Am
