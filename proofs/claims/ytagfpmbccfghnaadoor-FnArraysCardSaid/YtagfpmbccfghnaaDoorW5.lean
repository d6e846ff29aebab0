/- The plain law, the end: the model of the law on arrays answers true. -/
import Derived.Test.YtagfpmbccfghnaaDoorW4
import Derived.Test.YtagfpmbccfghnaaDoorF5
set_option linter.unusedVariables false
set_option linter.unusedSimpArgs false
namespace Go.Am
open Go Go.RowKit Go.Proofs

/-! ### The law's loops -/
theorem L18_go (l : List TEntry) (k : TKey) (hl : l.length ≤ 1000000) : ∀ m n i : Nat, n ≤ i → i - n = m → ∀ hi : i < l.length, (∀ j, n ≤ j → ∀ hj : j < i, (l[j]'(by omega)).fKey = k) → l[i].fKey ≠ k →
    m6_L18 k.fText l k.fStr k.fNum (n : Int) = some (i : Int) := by
  intro m
  induction m with
  | zero =>
    intro n i h1 h2 hi h3 h4
    obtain rfl : n = i := by omega
    rw [m6_L18, if_pos (by omega), idx_nat hi, sb, if_neg h4]
  | succ m ihm =>
    intro n i h1 h2 hi h3 h4
    rw [m6_L18, if_pos (by omega), idx_nat (show n < l.length by omega), sb, if_pos (h3 n (by omega) (by omega)), w_succ (by omega)]
    exact ihm (n + 1) i (by omega) (by omega) hi (fun j hj => h3 j (by omega)) h4
theorem L14_go (l : List TEntry) (w : TValue) (k : TKey) (hw : Sm w) (hl : l.length ≤ 1000000)
    (hR : ∀ i, ∀ hi : i < w.fItems.length, w.fItems[i].fKey ≠ k → ∃ h : i < l.length, l[i] = w.fItems[i])
    (hS : ∀ i, ∀ hi : i < w.fItems.length, ∀ h : i < l.length, w.fItems[i].fKey = k → l[i].fKey = k) :
    ∀ m n i : Nat, n ≤ i → i ≤ w.fItems.length → w.fItems.length - i = m → (∀ j, n ≤ j → j < i → ∀ h : j < l.length, l[j].fKey = k) →
    m6_L14 k.fText l k.fStr w k.fNum (n : Int) (i : Int) = some (.inl ()) := by
  have hlen := hw.len
  intro m
  induction m with
  | zero =>
    intro n i h0 h1 h2 h3
    rw [m6_L14, if_neg (by omega)]
  | succ m ihm =>
    intro n i h0 h1 h2 h3
    have hlt : i < w.fItems.length := by omega
    rw [m6_L14, if_pos (by omega), idx_nat hlt, sb]
    by_cases hk : w.fItems[i].fKey = k
    · rw [if_pos hk, sb]
      show m6_L14 k.fText l k.fStr w k.fNum (n : Int) (W64 ((i : Int) + 1)) = _
      rw [w_succ (by omega)]
      refine ihm n (i + 1) (by omega) (by omega) (by omega) (fun j h4 h5 h6 => ?_)
      rcases Nat.lt_or_ge j i with h7 | h7
      · exact h3 j h4 h7 h6
      · obtain rfl : j = i := by omega
        exact hS j hlt h6 hk
    · obtain ⟨hi, he⟩ := hR i hlt hk
      rw [if_neg hk, sb]
      have e18 := L18_go l k hl (i - n) n i h0 rfl hi (fun j h4 h5 => h3 j h4 h5 (by omega)) (by rw [he]; exact hk)
      show ((m6_L18 k.fText l k.fStr k.fNum (n : Int) >>= fun y110 => _) >>= fun o101 => _) = _
      rw [e18, sb, if_neg (by omega), idx_nat hi, sb, sb, if_pos (by rw [he]), sb, sb, he, m19_refl (hw.item _ (List.getElem_mem hlt)), sb, if_pos rfl, sb]
      show m6_L14 k.fText l k.fStr w k.fNum (W64 ((i : Int) + 1)) (W64 ((i : Int) + 1)) = _
      rw [w_succ (by omega)]
      exact ihm (i + 1) (i + 1) (by omega) (by omega) (by omega) (fun j h4 h5 => by omega)
/-- What putting a key into a checked array yields. -/
structure PutOk (v w : TValue) (k : TKey) (x : TValue) (j : Nat) : Prop where
  kind : w.fKind = 4
  sm : Sm w
  len : w.fItems.length ≤ 1000
  lt : j < w.fItems.length
  key : w.fItems[j].fKey = k
  val : w.fItems[j].fVal = x
  apart : ∀ i, ∀ hi : i < w.fItems.length, i ≠ j → w.fItems[i].fKey ≠ k
  next : ∀ i, ∀ hi : i < w.fItems.length, w.fItems[i].fKey.fText = false → w.fItems[i].fKey.fNum < w.fNext
  grow : v.fNext ≤ w.fNext
  back : ∀ i, ∀ hi : i < w.fItems.length, w.fItems[i].fKey ≠ k → ∃ h : i < v.fItems.length, v.fItems[i] = w.fItems[i]
  same : ∀ i, ∀ hi : i < w.fItems.length, ∀ h : i < v.fItems.length, w.fItems[i].fKey = k → v.fItems[i].fKey = k
theorem put_ok {v x : TValue} {k : TKey} (hk4 : v.fKind = 4) (hv : Sm v) (hl : v.fItems.length ≤ 100) (hx : Sm x) (hg : KeysOk v) (hn0 : 0 ≤ v.fNext) (hn1 : v.fNext ≤ 1000000001) (hk : vk k = true) :
    ∃ w j, m56 v k x = some w ∧ PutOk v w k x j := by
  obtain ⟨r, e, ha⟩ := m27_at v k hk4 (by omega)
  rcases ha with ⟨rfl, h⟩ | ⟨j, hj, rfl, h1, h2⟩
  · refine ⟨_, v.fItems.length, m56_eq (by omega) e (.inl ⟨rfl, h⟩), ?_⟩
    have el : putL v.fItems k x (-1) = v.fItems ++ [.mk k x] := if_neg (by decide)
    have hnx : v.fNext ≤ putN v.fNext k (-1) ∧ (k.fText = false → k.fNum < putN v.fNext k (-1)) := by
      unfold putN
      rw [if_neg (by decide)]
      by_cases ht : k.fText = true
      · rw [if_pos ht]; exact ⟨by omega, fun hf => by rw [ht] at hf; cases hf⟩
      · rw [if_neg ht]
        have hb := vk_int hk ht
        rw [W64, w64 (by omega) (by omega)]
        split
        · exact ⟨by omega, fun _ => by omega⟩
        · exact ⟨by omega, fun _ => by omega⟩
    rw [el]
    have gl : ∀ i, ∀ hi : i < (v.fItems ++ [TEntry.mk k x]).length, (∃ h : i < v.fItems.length, (v.fItems ++ [TEntry.mk k x])[i] = v.fItems[i]) ∨ (i = v.fItems.length ∧ (v.fItems ++ [TEntry.mk k x])[i] = TEntry.mk k x) := fun i hi => by
      rcases Nat.lt_or_ge i v.fItems.length with h4 | h4
      · exact .inl ⟨h4, List.getElem_append_left h4⟩
      · have : i = v.fItems.length := by simp at hi; omega
        subst this
        exact .inr ⟨rfl, by simp⟩
    refine ⟨hk4, Sm.mk (by simp; omega) (fun e he => ?_), by simp; omega, show v.fItems.length < (v.fItems ++ [TEntry.mk k x]).length by simp, by simp, by simp, fun i hi hne => ?_, fun i hi => ?_, hnx.1, fun i hi hne => ?_, fun i hi h0 hke => ?_⟩
    · rcases List.mem_append.1 he with h5 | h5
      · exact hv.item e h5
      · rw [List.mem_singleton] at h5; subst h5; exact hx
    · rcases gl i hi with ⟨h4, h5⟩ | ⟨h4, _⟩
      · show (v.fItems ++ [TEntry.mk k x])[i].fKey ≠ k
        rw [h5]; exact h _ (List.getElem_mem h4)
      · exact absurd h4 hne
    · show (v.fItems ++ [TEntry.mk k x])[i].fKey.fText = false → (v.fItems ++ [TEntry.mk k x])[i].fKey.fNum < putN v.fNext k (-1)
      rcases gl i hi with ⟨h4, h5⟩ | ⟨h4, h5⟩
      · rw [h5]; intro hf; have := (hg i h4).1 hf; have := hnx.1; omega
      · rw [h5]; exact hnx.2
    · have hne : (v.fItems ++ [TEntry.mk k x])[i].fKey ≠ k := hne
      rcases gl i hi with ⟨h4, h5⟩ | ⟨h4, h5⟩
      · exact ⟨h4, h5.symm⟩
      · rw [h5] at hne; exact absurd rfl hne
    · have hke : (v.fItems ++ [TEntry.mk k x])[i].fKey = k := hke
      rcases gl i hi with ⟨h4, h5⟩ | ⟨h4, h5⟩
      · rw [h5] at hke; exact hke
      · omega
  · refine ⟨_, j, m56_eq (by omega) e (.inr ⟨j, hj, rfl, h1, h2⟩), ?_⟩
    have el : putL v.fItems k x (j : Int) = v.fItems.set j (.mk k x) := if_pos (by omega)
    have en : putN v.fNext k (j : Int) = v.fNext := if_pos (by omega)
    rw [el, en]
    have gl : ∀ i, ∀ hi : i < (v.fItems.set j (TEntry.mk k x)).length, (∃ h : i < v.fItems.length, i ≠ j ∧ (v.fItems.set j (TEntry.mk k x))[i] = v.fItems[i]) ∨ (i = j ∧ (v.fItems.set j (TEntry.mk k x))[i] = TEntry.mk k x) := fun i hi => by
      have hi' : i < v.fItems.length := by simpa using hi
      by_cases h4 : i = j
      · subst h4; exact .inr ⟨rfl, by simp⟩
      · exact .inl ⟨hi', h4, List.getElem_set_ne (fun h => h4 h.symm) _⟩
    have ap : ∀ i, ∀ hi : i < v.fItems.length, i ≠ j → v.fItems[i].fKey ≠ k := fun i hi hne => by
      rcases Nat.lt_or_ge i j with h4 | h4
      · exact h2 i h4
      · have := (hg i hi).2 j (by omega)
        rw [h1] at this
        exact fun h => this h.symm
    refine ⟨hk4, Sm.mk (by simp; omega) (fun e he => ?_), by simp; omega, show j < (v.fItems.set j (TEntry.mk k x)).length by simp; omega, by simp, by simp, fun i hi hne => ?_, fun i hi => ?_, Int.le_refl _, fun i hi hne => ?_, fun i hi h0 hke => ?_⟩
    · rcases List.mem_or_eq_of_mem_set he with h5 | h5
      · exact hv.item e h5
      · subst h5; exact hx
    · show (v.fItems.set j (TEntry.mk k x))[i].fKey ≠ k
      rcases gl i hi with ⟨h4, h5, h6⟩ | ⟨h4, _⟩
      · rw [h6]; exact ap i h4 hne
      · exact absurd h4 hne
    · show (v.fItems.set j (TEntry.mk k x))[i].fKey.fText = false → (v.fItems.set j (TEntry.mk k x))[i].fKey.fNum < v.fNext
      rcases gl i hi with ⟨h4, h5, h6⟩ | ⟨h4, h6⟩
      · rw [h6]; exact (hg i h4).1
      · rw [h6]; intro hf; have := (hg j hj).1; rw [h1] at this; exact this hf
    · have hne : (v.fItems.set j (TEntry.mk k x))[i].fKey ≠ k := hne
      rcases gl i hi with ⟨h4, h5, h6⟩ | ⟨h4, h6⟩
      · exact ⟨h4, h6.symm⟩
      · rw [h6] at hne; exact absurd rfl hne
    · have hke : (v.fItems.set j (TEntry.mk k x))[i].fKey = k := hke
      rcases gl i hi with ⟨h4, h5, h6⟩ | ⟨h4, h6⟩
      · rw [h6] at hke; exact hke
      · subst h4; exact h1

theorem m22_some {v : TValue} (h : Sm v) : ∃ b, m22 v = some b ∧ (b = true → m52 v = some true) := by
  obtain ⟨r, e⟩ := m51_some h 200
  obtain ⟨q, e2⟩ := m52_some h
  unfold m22
  rw [e, sb]
  split
  · rw [e2, sb]; exact ⟨_, rfl, fun hq => by rw [hq]⟩
  · exact ⟨_, rfl, fun hq => by cases hq⟩
theorem m24_some {v x : TValue} (k : TKey) (hv : Sm v) (hx : Sm x) : ∃ w b, m24 v k x = some (w, b) ∧ (v.fKind = 4 → b = vk k) ∧ (¬ v.fKind = 4 → b = false) ∧ (b = false → w = v) := by
  unfold m24
  rw [m46_eq hv, sb]
  by_cases h4 : v.fKind = 4
  · rw [if_pos h4, m55_eq, sb]
    cases hk : vk k with
    | false =>
      rw [if_neg (by decide)]
      exact ⟨_, _, rfl, fun _ => rfl, fun h => absurd h4 h, fun _ => rfl⟩
    | true =>
      obtain ⟨r, e, ha⟩ := m27_at v k h4 (by have := hv.len; omega)
      rw [if_pos rfl, m46_eq hx, sb, m56_eq hv.len e ha, sb]
      exact ⟨_, _, rfl, fun _ => rfl, fun h => absurd h4 h, fun h => by cases h⟩
  · rw [if_neg h4]
    exact ⟨_, _, rfl, fun h => absurd h h4, fun _ => rfl, fun _ => rfl⟩
theorem m24_put {v x w : TValue} {k : TKey} (hv : Sm v) (hx : Sm x) (h4 : v.fKind = 4) (hk : vk k = true) (e : m56 v k x = some w) : m24 v k x = some (w, true) := by
  unfold m24
  rw [m46_eq hv, sb, if_pos h4, m55_eq, sb, hk, if_pos rfl, m46_eq hx, sb, e, sb]
theorem at_of {v : TValue} {k : TKey} {j : Nat} (h4 : v.fKind = 4) (hl : v.fItems.length ≤ 1000) (hj : j < v.fItems.length) (hk : v.fItems[j].fKey = k) (ha : ∀ i, ∀ hi : i < v.fItems.length, i ≠ j → v.fItems[i].fKey ≠ k) :
    m27 v k = some (j : Int) := by
  obtain ⟨r, e, h⟩ := m27_at v k h4 (by omega)
  rw [e, h.uniq hj hk (fun i hi => ha i (by omega) (by omega))]
theorem no_of {v : TValue} {k : TKey} (h4 : v.fKind = 4) (hl : v.fItems.length ≤ 1000) (ha : ∀ e ∈ v.fItems, e.fKey ≠ k) : m27 v k = some (-1) := by
  obtain ⟨r, e, h⟩ := m27_at v k h4 (by omega)
  rcases h with ⟨rfl, _⟩ | ⟨j, hj, _, h1, _⟩
  · exact e
  · exact absurd h1 (ha _ (List.getElem_mem hj))

theorem law_arrays (code : List UInt8) : m6 code = some true := by
  unfold m6
  by_cases hc : (code.length : Int) > 1048576
  · rw [if_pos hc]
  rw [if_neg hc]
  obtain ⟨v, k, x, e, ⟨hv, hvl⟩, ⟨hx, _⟩⟩ := m21_ok (b := code) (by omega)
  rw [e, sb]
  obtain ⟨vk0, vn, vs, vx, vl⟩ := v
  obtain ⟨kt, kn, ks⟩ := k
  obtain ⟨xk, xn, xs, xx, xl⟩ := x
  show ((_ : Option (Unit ⊕ Bool)) >>= _) = some true
  obtain ⟨b, e22, h22⟩ := m22_some hv
  obtain ⟨w, c, e24, c1, c2, c3⟩ := m24_some (TKey.mk kt kn ks) hv hx
  by_cases hgood : b = true ∧ vk0 = 4 ∧ vk (TKey.mk kt kn ks) = true
  · obtain ⟨hb, h4, hk⟩ := hgood
    subst hb; subst h4
    obtain ⟨n0, n1, hg⟩ := m52_good (h22 rfl) rfl hv.len
    obtain ⟨w', j, ep, P⟩ := put_ok rfl hv hvl hx hg n0 n1 hk
    have e24' := m24_put hv hx rfl hk ep
    have a1 := at_of P.kind P.len P.lt P.key P.apart
    have b1 := m25_at P.lt a1 P.sm
    rw [P.val] at b1
    have b2 := m26_at P.lt a1 P.sm
    have zl : (w'.fItems.take j ++ w'.fItems.drop (j + 1)).length = w'.fItems.length - 1 := by
      rw [List.length_append, List.length_take, List.length_drop]; have := P.lt; omega
    have zs : Sm (.mk w'.fKind w'.fNum w'.fStr w'.fNext (w'.fItems.take j ++ w'.fItems.drop (j + 1))) := Sm.mk (by rw [zl]; have := P.len; omega) (fun e he => by
      rcases List.mem_append.1 he with h5 | h5
      · exact P.sm.item e (List.mem_of_mem_take h5)
      · exact P.sm.item e (List.mem_of_mem_drop h5))
    have z1 : m27 (.mk w'.fKind w'.fNum w'.fStr w'.fNext (w'.fItems.take j ++ w'.fItems.drop (j + 1))) (TKey.mk kt kn ks) = some (-1) := no_of P.kind (by rw [TValue.fItems_mk, zl]; have := P.len; omega) (fun e he => by
      rcases List.mem_append.1 he with h5 | h5
      · obtain ⟨i, hi, rfl⟩ := List.mem_iff_getElem.1 h5
        rw [List.getElem_take]
        rw [List.length_take] at hi
        exact P.apart i (by omega) (by omega)
      · obtain ⟨i, hi, rfl⟩ := List.mem_iff_getElem.1 h5
        rw [List.getElem_drop]
        rw [List.length_drop] at hi
        exact P.apart (j + 1 + i) (by omega) (by omega))
    have b3 := m25_none z1
    have b4 : m27 w' (TKey.mk false w'.fNext []) = some (-1) := no_of P.kind P.len (fun e he => by
      obtain ⟨i, hi, rfl⟩ := List.mem_iff_getElem.1 he
      intro hh
      have := P.next i hi (by rw [hh])
      rw [hh] at this
      simp at this)
    have b5 := L14_go vl w' (TKey.mk kt kn ks) P.sm (by have := hv.len; exact this) P.back P.same w'.fItems.length 0 0 (by omega) (by omega) (by omega) (fun _ _ h => absurd h (Nat.not_lt_zero _))
    replace b5 : m6_L14 kt vl ks w' kn 0 0 = some (.inl ()) := b5
    obtain ⟨l28, e28, h28⟩ := m28_len P.kind (by have := P.len; omega)
    obtain ⟨l29, e29, h29⟩ := m29_len (v := .mk w'.fKind w'.fNum w'.fStr w'.fNext (w'.fItems.take j ++ w'.fItems.drop (j + 1))) P.kind zs
    have hgrow : ¬ w'.fNext < vx := by have := P.grow; simp at this; omega
    have hlen : ((l29.length : Int) == W64 ((w'.fItems.length : Int) - 1)) = true := by
      rw [h29, TValue.fItems_mk, zl, beq_iff_eq, W64, w64 (by have := P.len; omega) (by have := P.len; omega)]
      have := P.lt; omega
    simp only [TValue.fKind_mk, TValue.fNum_mk, TValue.fStr_mk, TValue.fNext_mk, TValue.fItems_mk, sb, e22, m23_eq, hk, if_true, if_false, Bool.not_true, Bool.false_eq_true, e24', b1, b2, b3, TValue.eta, m19_refl hx, b4, hgrow, b5, e28, e29, h28, hlen, Int.reduceNeg, Int.reduceLE, ge_iff_le]
  · have hc : (b = true ∧ vk0 = 4 ∧ vk (TKey.mk kt kn ks) = true) → False := hgood
    by_cases h4 : vk0 = 4
    · have := c1 h4
      subst this
      subst h4
      cases hk : vk (TKey.mk kt kn ks) with
      | true =>
        obtain rfl : b = false := by cases b; rfl; exact (hc ⟨rfl, rfl, hk⟩).elim
        simp only [TValue.fKind_mk, TValue.fNum_mk, TValue.fStr_mk, TValue.fNext_mk, TValue.fItems_mk, sb, e22, m23_eq, hk, if_true, if_false, Bool.not_true, Bool.not_false, Bool.false_eq_true, e24]
      | false =>
        rw [hk] at c3
        obtain rfl := c3 rfl
        have := m19_refl hv
        cases b <;> simp only [TValue.fKind_mk, TValue.fNum_mk, TValue.fStr_mk, TValue.fNext_mk, TValue.fItems_mk, sb, e22, m23_eq, hk, if_true, if_false, Bool.not_true, Bool.not_false, Bool.false_eq_true, e24, this]
    · have := c2 h4
      subst this
      obtain rfl := c3 rfl
      have := m19_refl hv
      cases b <;> simp only [TValue.fKind_mk, TValue.fNum_mk, TValue.fStr_mk, TValue.fNext_mk, TValue.fItems_mk, sb, e22, m23_eq, h4, if_true, if_false, Bool.not_true, Bool.not_false, Bool.false_eq_true, e24, this]

/-- The law on arrays: the call answers true, whatever its bytes. -/
theorem lawArrays (code : List UInt8) : ACall Tryd.prog 6 [sl 1 cB code] [] (fun res _ => res = .bool true) :=
  (ok6 (law_arrays code)).mono (fun _ _ h => h.1)

/-! ### The bytes that came in -/
theorem prep_congr {S : Nat → Prop} {w : World} {sz n : Nat} {f g : Nat → List PV} {v : Value} (h : PRep S w (.slc sz n f) v) (e : ∀ i, i < n → f i = g i) : PRep S w (.slc sz n g) v := by
  cases h with
  | slc0 => exact .slc0 _ _ _ _
  | slc _ _ _ b off c vf hS hlen hc hcell hrep =>
    exact .slc sz n g b off c vf hS (fun i hi => by rw [← e i hi]; exact hlen i hi) hc (fun i j pv hi hj => hcell i j pv hi (by rw [e i hi]; exact hj)) (fun i j pv hi hj => hrep i j pv hi (by rw [e i hi]; exact hj))
theorem prep_bytes {S : Nat → Prop} {w : World} {a : Option Addr} {len cap : Nat} {zs : List Int}
    (h : (a = none ∧ len = 0 ∧ cap = 0 ∧ zs = []) ∨ ∃ x, a = some x ∧ len ≤ cap ∧ cap ≤ maxLen ∧ zs.length = cap ∧ (∀ i, i < zs.length → w.cell? (x.add i) = some (.int .u8 (zs.getD i 0))) ∧ ∀ n ∈ zs, (Lit.int .u8 n).wf = true)
    (hS : ∀ b, b < w.heap.size → S b) : ∃ bs : List UInt8, PRep S w (sl 1 cB bs) (.slice a len cap) := by
  have hp := prep_ints h hS
  have hz : len ≤ zs.length := by
    rcases h with ⟨rfl, rfl, rfl, rfl⟩ | ⟨x, rfl, hl, hm, hz, hcell, hwz⟩
    · simp
    · omega
  have hb : ∀ i, 0 ≤ zs.getD i 0 ∧ zs.getD i 0 ≤ 255 := bytes_bd h
  refine ⟨(zs.take len).map fun z => UInt8.ofNat z.toNat, ?_⟩
  have hlen : ((zs.take len).map fun z => UInt8.ofNat z.toNat).length = len := by simp; omega
  show PRep S w (.slc 1 ((zs.take len).map fun z => UInt8.ofNat z.toNat).length (row cB _)) _
  rw [hlen]
  refine prep_congr hp (fun i hi => ?_)
  have hb2 := hb i
  rw [row_lt (by rw [hlen]; exact hi), List.getElem_map, List.getElem_take]
  have e1 : zs.getD i 0 = zs[i]'(by omega) := by
    rw [List.getD_eq_getElem?_getD]; simp [show i < zs.length by omega]
  rw [← e1]
  show _ = [PV.int .u8 ((UInt8.ofNat (zs.getD i 0).toNat).toNat : Int)]
  congr 2
  rw [UInt8.toNat_ofNat']
  omega
end Go.Am
