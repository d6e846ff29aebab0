/- Comparing: an answer for all drawn values; whole numbers by their size. -/
import Derived.Test.YtgkniabpdgaoiaaDoorG1
import Derived.Test.YtgkniabpdgaoiaaDoorW3
set_option linter.unusedVariables false
set_option linter.unusedSimpArgs false
namespace Go.Am
open Go Go.RowKit Go.Proofs
theorem tb_some (v : TValue) : ∃ b, m_i_ToBool v = some b := by
 unfold m_i_ToBool
 by_cases h0 : v.fKind = 0
 ·rw [if_pos h0]; exact ⟨_, rfl⟩
 rw [if_neg h0]
 by_cases h1 : v.fKind = 1
 ·rw [if_pos h1, sb]; repeat' first | exact ⟨_, rfl⟩ | split
 ·rw [if_neg h1, sb]; repeat' first | exact ⟨_, rfl⟩ | split
theorem bn_some (b : Bool) : ∃ n, m_i_boolNum b = some n := by cases b <;> exact ⟨_, rfl⟩
theorem ord_eq (a b : Int) : m_i_orderOf a b = some (if a < b then -1 else if a > b then 1 else 0) := by unfold m_i_orderOf; repeat' first | rfl | split
theorem ord_some (a b : Int) : ∃ n, m_i_orderOf a b = some n := ⟨_, ord_eq a b⟩
theorem dig_some (a : Int) : ∃ b, m_i_isDigit a = some b := by unfold m_i_isDigit; split <;> exact ⟨_, rfl⟩
theorem min_some (a b : Int) : ∃ c, m_i_Min a b = some c := by unfold m_i_Min; split <;> exact ⟨_, rfl⟩
theorem num_go (s : Str) (hs : s.length ≤ 10) : ∀ m i : Nat, i ≤ s.length → s.length - i = m → ∀ y : Int, ∃ o, m_i_IsNumeric_L2 s y (i : Int) = some o := by
 intro m
 induction m with
 | zero => intro i h1 h2 y; rw [m_i_IsNumeric_L2, if_neg (by omega)]; exact ⟨_, rfl⟩
 | succ m ihm =>
  intro i h1 h2 y
  have hlt : i < s.length := by omega
  obtain ⟨b, hb⟩ := dig_some ((s.getD i 0).toNat : Int)
  rw [m_i_IsNumeric_L2, if_pos (by omega), sidx_nat hlt, sb, hb, sb]
  split
  ·rw [sb, w_succ (by omega)]; exact ihm (i + 1) (by omega) (by omega) _
  ·exact ⟨_, rfl⟩
theorem num_some (s : Str) : ∃ b, m_i_IsNumeric s = some b ∧ (b = true → s.length ≤ 11) := by
 have key : ∀ t : Str, (t.length ≤ 10 → s.length ≤ 11) → ∃ b, (if (t.length : Int) < 1 then some false else if (t.length : Int) > 10 then some false else ((m_i_IsNumeric_L2 t 0 0 : Option ((Int) ⊕ Bool)) >>= fun o14 => match o14 with
   | .inr r => some r
   | .inl y13 => some (decide (y13 ≤ 1000000000)))) = some b ∧ (b = true → s.length ≤ 11) := fun t ht => by
  by_cases h1 : (t.length : Int) < 1
  ·rw [if_pos h1]; exact ⟨_, rfl, fun h => by cases h⟩
  rw [if_neg h1]
  by_cases h2 : (t.length : Int) > 10
  ·rw [if_pos h2]; exact ⟨_, rfl, fun h => by cases h⟩
  rw [if_neg h2]
  obtain ⟨o, e⟩ := num_go t (by omega) t.length 0 (by omega) (by omega) 0
  replace e : m_i_IsNumeric_L2 t 0 0 = some o := e
  rw [e, sb]
  cases o <;> exact ⟨_, rfl, fun _ => ht (by omega)⟩
 unfold m_i_IsNumeric
 cases s with
 | nil =>
  rw [if_pos rfl, sb]
  exact key [] (fun _ => by simp)
 | cons c r =>
  have e0 : sidx (c :: r) 0 = some c := sidx_nat (s := c :: r) (i := 0) (by simp)
  rw [if_neg (by simp), e0, sb]
  by_cases hc : (c.toNat : Int) = 45
  ·have e1 : sfrom (c :: r) 1 = some r := by
    unfold sfrom
    rw [if_pos (by simp only [List.length_cons]; omega)]; rfl
   rw [if_pos hc, e1, sb, sb]
   exact key r (fun h => by simp; omega)
  ·rw [if_neg hc, sb]
   exact key (c :: r) (fun h => by omega)
theorem lead_go (s : Str) (hs : s.length ≤ 11) : ∀ m i : Nat, i ≤ s.length → s.length - i = m → ∀ y : Int, ∃ o, m_i_LeadingInt_L2 s (i : Int) y = some o := by
 intro m
 induction m with
 | zero => intro i h1 h2 y; rw [m_i_LeadingInt_L2, if_neg (by omega)]; exact ⟨_, rfl⟩
 | succ m ihm =>
  intro i h1 h2 y
  have hlt : i < s.length := by omega
  obtain ⟨b, hb⟩ := dig_some ((s.getD i 0).toNat : Int)
  rw [m_i_LeadingInt_L2, if_pos (by omega), sidx_nat hlt, sb, hb, sb]
  split
  ·obtain ⟨q, hq⟩ := min_some (W64 ((W64 (y * 10)) + (W64 (IntKind.u8.wrap (((s.getD i 0).toNat : Int) - 48))))) 1000000000
   rw [sb, hq, sb, w_succ (by omega)]; exact ihm (i + 1) (by omega) (by omega) _
  ·exact ⟨_, rfl⟩
theorem lead_some (s : Str) (hs : s.length ≤ 11) : ∃ n, m_i_LeadingInt s = some n := by
 unfold m_i_LeadingInt
 have fin : ∀ b : Bool, (b = true → 1 ≤ s.length) → ∃ n, (((if b = true then some 1 else some 0 : Option (Int)) >>= fun y8 => (m_i_LeadingInt_L2 s y8 0 : Option (Int)) >>= fun y13 => (if b = true then some (W64 (0 - y13)) else some y13))) = some n := fun b hb => by
  cases b with
  | true =>
   obtain ⟨o, e⟩ := lead_go s hs (s.length - 1) 1 (hb rfl) (by omega) 0
   replace e : m_i_LeadingInt_L2 s 1 0 = some o := e
   rw [if_pos rfl, sb, e, sb, if_pos rfl]; exact ⟨_, rfl⟩
  | false =>
   obtain ⟨o, e⟩ := lead_go s hs s.length 0 (by omega) (by omega) 0
   replace e : m_i_LeadingInt_L2 s 0 0 = some o := e
   rw [if_neg (by decide), sb, e, sb, if_neg (by decide)]; exact ⟨_, rfl⟩
 cases s with
 | nil => rw [if_pos rfl, sb]; exact fin false (fun h => by cases h)
 | cons c r =>
  have e0 : sidx (c :: r) 0 = some c := sidx_nat (s := c :: r) (i := 0) (by simp)
  rw [if_neg (by simp), e0, sb, sb]
  exact fin _ (fun _ => by simp)
theorem toint_some (v : TValue) (h : v.fKind = 3 → v.fStr.length ≤ 11) : ∃ n, m_i_ToInt v = some n := by
 unfold m_i_ToInt
 by_cases h2 : v.fKind = 2
 ·rw [if_pos h2]; exact ⟨_, rfl⟩
 rw [if_neg h2]
 by_cases h3 : v.fKind = 3
 ·obtain ⟨n, e⟩ := lead_some v.fStr (h h3)
  rw [if_pos h3, e, sb]; exact ⟨_, rfl⟩
 ·obtain ⟨b, e⟩ := tb_some v
  rw [if_neg h3, e, sb]
  split <;> exact ⟨_, rfl⟩
theorem tonum_some (v : TValue) : ∃ p, m_i_ToNumber v = some p := by
 unfold m_i_ToNumber
 have fin : ∀ b : Bool, (b = true → ¬ v.fKind = 3) → ∃ p, (if b = true then m_i_ToInt v >>= fun v8 => some (v8, (0 : Int)) else (if v.fKind = 3 then m_i_IsNumeric v.fStr >>= fun v11 => (if v11 = true then m_i_LeadingInt v.fStr >>= fun v14 => some (v14, (0 : Int)) else some (0, 2)) else some (0, 2))) = some p := fun b hb => by
  cases b with
  | true =>
   obtain ⟨n, e⟩ := toint_some v (fun h3 => absurd h3 (hb rfl))
   rw [if_pos rfl, e, sb]; exact ⟨_, rfl⟩
  | false =>
   rw [if_neg (by decide)]
   by_cases h3 : v.fKind = 3
   ·obtain ⟨b, e, hl⟩ := num_some v.fStr
    rw [if_pos h3, e, sb]
    cases b with
    | true =>
     obtain ⟨n, e2⟩ := lead_some v.fStr (hl rfl)
     rw [if_pos rfl, e2, sb]; exact ⟨_, rfl⟩
    | false => rw [if_neg (by decide)]; exact ⟨_, rfl⟩
   ·rw [if_neg h3]; exact ⟨_, rfl⟩
 by_cases h0 : v.fKind = 0
 ·rw [if_pos h0, sb]; exact fin _ (fun _ => by omega)
 rw [if_neg h0]
 by_cases h1 : v.fKind = 1
 ·rw [if_pos h1, sb]; exact fin _ (fun _ => by omega)
 rw [if_neg h1, sb]
 exact fin _ (fun h => by have := eq_of_beq h; omega)
theorem text_some {v : TValue} (h : Nb v) : ∃ p, m_i_ToText v = some p := by
 unfold m_i_ToText
 by_cases h0 : v.fKind = 0
 ·rw [if_pos h0]; exact ⟨_, rfl⟩
 rw [if_neg h0]
 by_cases h1 : v.fKind = 1
 ·rw [if_pos h1]; split <;> exact ⟨_, rfl⟩
 rw [if_neg h1]
 by_cases h2 : v.fKind = 2
 ·have hn := h.num
  have e : m_i_FormatInt v.fNum = some (Lib.itoa v.fNum) := by unfold m_i_FormatInt m73; rw [if_pos (by omega), sb]
  rw [if_pos h2, e, sb]; exact ⟨_, rfl⟩
 rw [if_neg h2]
 split <;> exact ⟨_, rfl⟩
theorem sc_some (v : TValue) : ∃ b, m_i_isScalarText v = some b := by unfold m_i_isScalarText; split <;> exact ⟨_, rfl⟩
theorem bit_some (v u : TValue) : ∃ c, (m_i_ToBool v >>= fun v18 => m_i_boolNum v18 >>= fun v20 => m_i_ToBool u >>= fun v22 => m_i_boolNum v22 >>= fun v24 => m_i_orderOf v20 v24 >>= fun v26 => some v26) = some c := by
 obtain ⟨a, e1⟩ := tb_some v
 obtain ⟨b, e2⟩ := bn_some a
 obtain ⟨c, e3⟩ := tb_some u
 obtain ⟨d, e4⟩ := bn_some c
 obtain ⟨n, e5⟩ := ord_some b d
 rw [e1, sb, e2, sb, e3, sb, e4, sb, e5, sb]; exact ⟨_, rfl⟩
theorem cmp_some : ∀ (n : Nat), n ≤ 2000 → ∀ v : TValue, v.wt ≤ n → Nb v → ∀ u : TValue, u.wt ≤ 2000 → Nb u → ∃ c, m_i_CompareValues v u = some c := by
 intro n
 induction n with
 | zero => intro _ v hv; have := wt_pos v; omega
 | succ n ih =>
  intro hn v hv hnv u hu hnu
  have arr : ∃ c, m_i_compareArrays v u = some c := by
   rw [m_i_compareArrays]
   by_cases hl : (v.fItems.length : Int) = (u.fItems.length : Int)
   ·rw [if_pos hl]
    have hvl := wt_len (v := v)
    have hul := wt_len (v := u)
    have go : ∀ m i : Nat, i ≤ v.fItems.length → v.fItems.length - i = m → ∃ o, m_i_compareArrays_L2 v u (i : Int) = some o := by
     intro m
     induction m with
     | zero => intro i h1 h2; rw [m_i_compareArrays_L2, if_neg (by omega)]; exact ⟨_, rfl⟩
     | succ m ihm =>
      intro i h1 h2
      have hlt : i < v.fItems.length := by omega
      have hi := wt_item (v := v) (List.getElem_mem hlt)
      have key : ∃ r, m27 u v.fItems[i].fKey = some r ∧ (r < 0 ∨ ∃ k : Nat, r = (k : Int) ∧ k < u.fItems.length) := by
       by_cases hk : u.fKind = 4
       ·obtain ⟨r, e, hA⟩ := m27_at u v.fItems[i].fKey hk (by omega)
        refine ⟨r, e, ?_⟩
        rcases hA with ⟨h, _⟩ | ⟨k, hk1, h, _⟩
        ·exact .inl (by omega)
        ·exact .inr ⟨k, h, hk1⟩
       ·exact ⟨-1, by rw [m27, if_neg hk], .inl (by decide)⟩
      obtain ⟨r, e, hr⟩ := key
      rw [m_i_compareArrays_L2, if_pos (by omega), idx_nat hlt, sb, e, sb]
      rcases hr with hr | ⟨k, rfl, hk⟩
      ·rw [if_pos hr]; exact ⟨_, rfl⟩
      ·have hj := wt_item (v := u) (List.getElem_mem hk)
       obtain ⟨c, ec⟩ := ih (by omega) v.fItems[i].fVal (by omega) (hnv.item _ (List.getElem_mem hlt)) u.fItems[k].fVal (by omega) (hnu.item _ (List.getElem_mem hk))
       rw [if_neg (by omega), idx_nat hk, sb, ec, sb]
       split
       ·rw [w_succ (by omega)]; exact ihm (i + 1) (by omega) (by omega)
       ·exact ⟨_, rfl⟩
    obtain ⟨o, e⟩ := go v.fItems.length 0 (by omega) (by omega)
    replace e : m_i_compareArrays_L2 v u 0 = some o := e
    rw [e, sb]
    cases o <;> exact ⟨_, rfl⟩
   ·obtain ⟨c, e⟩ := ord_some (v.fItems.length : Int) (u.fItems.length : Int)
    rw [if_neg hl, e, sb]; exact ⟨_, rfl⟩
  have cs : ∀ a b : Str, ∃ c, (m_Compare a b >>= fun v7 => some v7) = some c := fun a b => ⟨_, rfl⟩
  obtain ⟨p, ep⟩ := tonum_some v
  obtain ⟨q, eq⟩ := tonum_some u
  obtain ⟨t1, et1⟩ := text_some hnv
  obtain ⟨t2, et2⟩ := text_some hnu
  obtain ⟨s1, es1⟩ := sc_some v
  obtain ⟨s2, es2⟩ := sc_some u
  obtain ⟨c, ec⟩ := arr
  obtain ⟨p1, p2⟩ := p
  obtain ⟨q1, q2⟩ := q
  obtain ⟨t1, x1⟩ := t1
  obtain ⟨t2, x2⟩ := t2
  obtain ⟨o1, eo⟩ := ord_some p1 q1
  have bit := bit_some v u
  have i2 : ∀ {c : Prop} [Decidable c] (a b : Bool), ∃ r, (if c then some a else some b) = some r := fun a b => by split <;> exact ⟨_, rfl⟩
  rw [m_i_CompareValues]
  refine some_bind (i2 _ _) fun b1 => some_ite (fun _ => cs _ _) fun _ => some_bind (i2 _ _) fun b9 => some_ite (fun _ => cs _ _) fun _ => some_ite (fun _ => bit) fun _ => some_ite (fun _ => bit) fun _ => some_ite (fun _ => bit) fun _ => some_ite (fun _ => bit) fun _ => ?_
  rw [ep, sb]
  dsimp only
  rw [eq, sb]
  dsimp only
  refine some_bind ?_ (fun o => ?_)
  ·rw [eo, sb]
   repeat' first | exact ⟨_, rfl⟩ | split
  ·cases o with
   | inr r => exact ⟨_, rfl⟩
   | inl _ =>
    dsimp only
    refine some_bind ?_ (fun b => some_ite (fun _ => ?_) (fun _ => some_bind (i2 _ _) fun b2 => some_ite (fun _ => ?_) (fun _ => ?_)))
    ·rw [es1, sb, es2, sb]
     exact i2 _ _
    ·rw [et1, sb]
     dsimp only
     rw [et2, sb]
     exact cs _ _
    ·rw [ec, sb]; exact ⟨_, rfl⟩
    ·repeat' first | exact ⟨_, rfl⟩ | split
theorem cmp_int {v u : TValue} (hv : v.fKind = 2) (hu : u.fKind = 2) : m_i_CompareValues v u = some (if v.fNum < u.fNum then -1 else if v.fNum > u.fNum then 1 else 0) := by
 have e : ∀ w : TValue, w.fKind = 2 → m_i_ToNumber w = some (w.fNum, 0) := fun w hw => by
  unfold m_i_ToNumber m_i_ToInt
  simp [hw, sb]
 rw [m_i_CompareValues]
 simp [hv, hu, e v hv, e u hu, ord_eq, sb]
end Go.Am
