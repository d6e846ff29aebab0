/- Sorting loses nothing and sorts whole numbers: the law FnSort. -/
import Derived.Test.YtgkniabpdgaoiaaDoorG2
set_option linter.unusedVariables false
set_option linter.unusedSimpArgs false
namespace Go.Am
open Go Go.RowKit Go.Proofs
theorem m19_some {v : TValue} (h : Sm v) : ∀ u : TValue, Sm u → ∃ b, m19 v u = some b := by
 induction h with
 | mk hl hi ih =>
  rename_i k n s x l
  intro u hu
  have hul := hu.len
  rw [m19]
  by_cases hlen : (((TValue.mk k n s x l).fItems.length : Nat) : Int) = (u.fItems.length : Int)
  ·rw [TValue.fItems_mk] at hlen
   have go : ∀ m i : Nat, i ≤ l.length → l.length - i = m → ∃ o, m19_L2 (.mk k n s x l) u (i : Int) = some o := by
    intro m
    induction m with
    | zero =>
     intro i h1 h2
     rw [m19_L2, TValue.fItems_mk, if_neg (by omega)]; exact ⟨_, rfl⟩
    | succ m ihm =>
     intro i h1 h2
     have hlt : i < l.length := by omega
     have hlt2 : i < u.fItems.length := by omega
     have e1 : idx l (i : Int) = some l[i] := idx_nat hlt
     have e2 : idx u.fItems (i : Int) = some u.fItems[i] := idx_nat hlt2
     obtain ⟨b, eb⟩ := ih _ (List.getElem_mem hlt) u.fItems[i].fVal (hu.item _ (List.getElem_mem hlt2))
     rw [m19_L2, TValue.fItems_mk, if_pos (by omega), e1, sb, e2, sb]
     split
     ·rw [sb, sb, eb, sb]
      split
      ·rw [w_succ (by omega)]; exact ihm (i + 1) (by omega) (by omega)
      ·exact ⟨_, rfl⟩
     ·exact ⟨_, rfl⟩
   obtain ⟨o, e⟩ := go l.length 0 (by omega) (by omega)
   replace e : m19_L2 (.mk k n s x l) u 0 = some o := e
   rw [e, sb]
   cases o <;> (repeat' first | exact ⟨_, rfl⟩ | split)
  ·simp only [if_neg hlen]
   repeat' first | exact ⟨_, rfl⟩ | split
def same (v u : TValue) : Bool := (m19 v u).getD false
theorem same_eq {v u : TValue} (h : Sm v) (g : Sm u) : m19 v u = some (same v u) := by
 obtain ⟨b, e⟩ := m19_some h u g
 unfold same
 rw [e]; rfl
theorem inner_go (out : List TValue) (x : TValue) (hc : ∀ v ∈ out, ∃ c, m_i_CompareValues v x = some c) (hl : out.length ≤ 1000) : ∀ i, i ≤ out.length → ∃ p : Nat, p ≤ i ∧ m_i_SortValues_L26 out x (i : Int) = some (p : Int) ∧
  (∀ k, ∀ hk : k < out.length, p ≤ k → k < i → m_i_CompareValues out[k] x = some 1) ∧ ∀ hp : p - 1 < out.length, 0 < p → ¬ m_i_CompareValues out[p - 1] x = some 1 := by
 intro i
 induction i with
 | zero =>
  intro _
  exact ⟨0, Nat.le_refl _, by rw [m_i_SortValues_L26, if_neg (by omega)], fun k _ _ h => absurd h (by omega), fun _ h => absurd h (by omega)⟩
 | succ i ih =>
  intro hi
  have hlt : i < out.length := by omega
  obtain ⟨c, ec⟩ := hc out[i] (List.getElem_mem hlt)
  have hw : W64 (((i + 1 : Nat) : Int) - 1) = (i : Int) := by rw [W64, w64 (by omega) (by omega)]; omega
  rw [m_i_SortValues_L26, if_pos (by omega), hw, idx_nat hlt, sb, ec, sb]
  by_cases h1 : c = 1
  ·rw [if_pos h1]
   obtain ⟨p, q1, q2, q3, q4⟩ := ih (by omega)
   refine ⟨p, by omega, q2, fun k hk h2 h3 => ?_, q4⟩
   by_cases hki : k = i
   ·subst hki; rw [ec, h1]
   ·exact q3 k hk h2 (by omega)
  ·rw [if_neg h1]
   refine ⟨i + 1, Nat.le_refl _, rfl, fun k hk h2 h3 => absurd h3 (by omega), fun hp _ h => ?_⟩
   have : out[i + 1 - 1] = out[i] := by congr 1
   rw [this, ec] at h
   exact h1 (Option.some.inj h)
def Up (l : List TValue) : Prop := l.Pairwise (fun a b => a.fNum ≤ b.fNum)
theorem up_ins {out : List TValue} {x : TValue} {p : Nat} (hp : p ≤ out.length) (hk : ∀ v ∈ out, v.fKind = 2) (hx : x.fKind = 2) (hU : Up out)
  (h1 : ∀ k, ∀ hk : k < out.length, p ≤ k → k < out.length → m_i_CompareValues out[k] x = some 1) (h2 : ∀ hp : p - 1 < out.length, 0 < p → ¬ m_i_CompareValues out[p - 1] x = some 1) : Up (out.take p ++ [x] ++ out.drop p) := by
 have hq := List.pairwise_iff_getElem.1 hU
 have hlow : ∀ a ∈ out.take p, a.fNum ≤ x.fNum := fun a ha => by
  obtain ⟨k, hk1, rfl⟩ := List.mem_iff_getElem.1 ha
  have hkp : k < p := by rw [List.length_take] at hk1; omega
  rw [List.getElem_take]
  have hp1 : p - 1 < out.length := by omega
  have hle : out[p - 1].fNum ≤ x.fNum := by
   have := h2 hp1 (by omega)
   rw [cmp_int (hk _ (List.getElem_mem hp1)) hx] at this
   by_cases q1 : out[p - 1].fNum < x.fNum
   ·omega
   ·rw [if_neg q1] at this
    by_cases q2 : out[p - 1].fNum > x.fNum
    ·rw [if_pos q2] at this; exact absurd rfl this
    ·omega
  by_cases hkk : k = p - 1
  ·subst hkk; exact hle
  ·have := hq k (p - 1) (by omega) hp1 (by omega)
   omega
 have hhigh : ∀ a ∈ out.drop p, x.fNum ≤ a.fNum := fun a ha => by
  obtain ⟨k, hk1, rfl⟩ := List.mem_iff_getElem.1 ha
  rw [List.length_drop] at hk1
  rw [List.getElem_drop]
  have := h1 (p + k) (by omega) (by omega) (by omega)
  rw [cmp_int (hk _ (List.getElem_mem _)) hx] at this
  by_cases q1 : out[p + k].fNum < x.fNum
  ·rw [if_pos q1] at this; cases this
  ·omega
 have hs : (out.take p ++ out.drop p).Pairwise (fun a b => a.fNum ≤ b.fNum) := by rw [List.take_append_drop]; exact hU
 obtain ⟨s1, s2, s3⟩ := List.pairwise_append.1 hs
 refine List.pairwise_append.2 ⟨List.pairwise_append.2 ⟨s1, List.pairwise_singleton _ _, fun a ha b hb => ?_⟩, s2, fun a ha b hb => ?_⟩
 ·rw [List.mem_singleton] at hb; subst hb; exact hlow a ha
 ·rcases List.mem_append.1 ha with ha | ha
  ·exact s3 a ha b hb
  ·rw [List.mem_singleton] at ha; subst ha; exact hhigh b hb
theorem sort_ok {l : List TValue} (hl : l.length ≤ 6) (hg : ∀ v ∈ l, v.wt ≤ 2000 ∧ Nb v) : ∃ s, m_i_SortValues l = some s ∧ s.Perm l ∧ ((∀ v ∈ l, v.fKind = 2) → Up s) := by
 have go : ∀ m i : Nat, i + m = l.length → ∀ out : List TValue, out.Perm (l.take i) → ((∀ v ∈ l, v.fKind = 2) → Up out) → ∃ s, m_i_SortValues_L22 l out (i : Int) = some s ∧ s.Perm l ∧ ((∀ v ∈ l, v.fKind = 2) → Up s) := by
  intro m
  induction m with
  | zero =>
   intro i hi out hp hu
   obtain rfl : i = l.length := by omega
   rw [List.take_length] at hp
   exact ⟨out, by rw [m_i_SortValues_L22, if_neg (by omega)], hp, hu⟩
  | succ m ihm =>
   intro i hi out hp hu
   have hlt : i < l.length := by omega
   have hx := hg _ (List.getElem_mem hlt)
   have hmem : ∀ v ∈ out, v ∈ l := fun v hv => List.mem_of_mem_take (hp.mem_iff.1 hv)
   have hol : out.length = i := by rw [hp.length_eq, List.length_take]; omega
   obtain ⟨p, q1, q2, q3, q4⟩ := inner_go out l[i] (fun v hv => cmp_some 2000 (Nat.le_refl _) v (hg v (hmem v hv)).1 (hg v (hmem v hv)).2 _ hx.1 hx.2) (by omega) out.length (Nat.le_refl _)
   have e46 : m46 l[i] = some l[i] := m46_eq (sm_wt (by omega))
   have eI : m_Insert out (p : Int) ([l[i]] : List TValue) = some (out.take p ++ [l[i]] ++ out.drop p) := by
    unfold m_Insert
    rw [if_pos ⟨by omega, by omega, rfl, by omega⟩, Int.toNat_natCast]
   rw [m_i_SortValues_L22, if_pos (by omega), idx_nat hlt, sb, q2, sb, e46, sb, eI, sb, sb, w_succ (by omega)]
   refine ihm (i + 1) (by omega) _ ?_ (fun hk => up_ins q1 (fun v hv => hk v (hmem v hv)) (hk _ (List.getElem_mem hlt)) (hu hk) (fun k h1 h2 h3 => q3 k h1 h2 h3) q4)
   have h1 : (out.take p ++ [l[i]] ++ out.drop p).Perm (out ++ [l[i]]) := by
    rw [List.append_assoc]
    refine (List.Perm.append_left (out.take p) (List.perm_append_comm (l₁ := [l[i]]) (l₂ := out.drop p))).trans ?_
    rw [← List.append_assoc, List.take_append_drop]
   refine h1.trans ?_
   rw [← List.take_append_getElem hlt]
   exact hp.append_right _
 obtain ⟨s, e, h1, h2⟩ := go l.length 0 (by omega) [] (by simp) (fun _ => List.Pairwise.nil)
 replace e : m_i_SortValues_L22 l [] 0 = some s := e
 unfold m_i_SortValues
 rw [e, sb]
 exact ⟨s, rfl, h1, h2⟩
theorem ordered_ok {s : List TValue} (hl : s.length ≤ 6) (hk : ∀ v ∈ s, v.fKind = 2) (hU : Up s) : m_i_IsOrdered s = some true := by
 have hq := List.pairwise_iff_getElem.1 hU
 have go : ∀ m i : Nat, i + m = s.length → 1 ≤ i → m_i_IsOrdered_L2 s (i : Int) = some (.inl ()) := by
  intro m
  induction m with
  | zero => intro i hi _; rw [m_i_IsOrdered_L2, if_neg (by omega)]
  | succ m ihm =>
   intro i hi h1
   have hlt : i < s.length := by omega
   have hw : W64 ((i : Int) - 1) = ((i - 1 : Nat) : Int) := by rw [W64, w64 (by omega) (by omega)]; omega
   have hle := hq (i - 1) i (by omega) hlt (by omega)
   rw [m_i_IsOrdered_L2, if_pos (by omega), hw, idx_nat (show i - 1 < s.length by omega), sb, idx_nat hlt, sb, cmp_int (hk _ (List.getElem_mem _)) (hk _ (List.getElem_mem _)), sb, if_neg (by split <;> (try split) <;> omega), w_succ (by omega)]
   exact ihm (i + 1) (by omega) (by omega)
 have e : m_i_IsOrdered_L2 s 1 = some (.inl ()) := by
  by_cases h0 : s.length = 0
  ·rw [m_i_IsOrdered_L2, if_neg (by omega)]
  ·exact go (s.length - 1) 1 (by omega) (Nat.le_refl _)
 unfold m_i_IsOrdered
 rw [e]; rfl
theorem law_sort (b : List UInt8) : m_l_FnSort b = some true := by
 unfold m_l_FnSort
 by_cases hb : (b.length : Int) > 1048576
 ·rw [if_pos hb]
 rw [if_neg hb]
 obtain ⟨l, e1, hl, hg⟩ := draw_ok (b := b) (by omega)
 obtain ⟨s, e2, hp, hU⟩ := sort_ok hl hg
 have hsl : s.length = l.length := hp.length_eq
 have smL : ∀ v ∈ l, Sm v := fun v hv => sm_wt (by have := (hg v hv).1; omega)
 have smS : ∀ v ∈ s, Sm v := fun v hv => smL v (hp.mem_iff.1 hv)
 have cnt : ∀ (i : Nat) (hi : i < l.length) (m k : Nat), k + m = l.length → ∀ y z : Nat, y + m ≤ 100 → z + m ≤ 100 → m_l_FnSort_L18 l s (i : Int) (y : Int) (z : Int) (k : Int) = some (((y + (l.drop k).countP (same l[i]) : Nat) : Int), ((z + (s.drop k).countP (same l[i]) : Nat) : Int)) := by
  intro i hi m
  induction m with
  | zero =>
   intro k hk y z _ _
   rw [m_l_FnSort_L18, if_neg (by omega), List.drop_eq_nil_of_le (by omega), List.drop_eq_nil_of_le (by omega)]; rfl
  | succ m ihm =>
   intro k hk y z hy hz
   have hlt : k < l.length := by omega
   have hlt2 : k < s.length := by omega
   rw [m_l_FnSort_L18, if_pos (by omega), idx_nat hi, sb, idx_nat hlt, sb, same_eq (smL _ (List.getElem_mem hi)) (smL _ (List.getElem_mem hlt)), sb, if_pos (show (k : Int) < (s.length : Int) by omega), idx_nat hlt2, sb, sb, same_eq (smL _ (List.getElem_mem hi)) (smS _ (List.getElem_mem hlt2)), sb]
   rw [List.drop_eq_getElem_cons hlt, List.drop_eq_getElem_cons hlt2, List.countP_cons, List.countP_cons]
   cases h1 : same l[i] l[k] <;> cases h2 : same l[i] s[k]
   ·rw [if_neg (by decide), sb, sb, if_neg (by decide), w_succ (by omega), ihm (k + 1) (by omega) y z (by omega) (by omega)]; simp
   ·rw [if_neg (by decide), sb, sb, if_pos rfl, w_succ (by omega), w_succ (by omega), ihm (k + 1) (by omega) y (z + 1) (by omega) (by omega)]; simp; omega
   ·rw [if_pos rfl, sb, sb, if_neg (by decide), w_succ (by omega), w_succ (by omega), ihm (k + 1) (by omega) (y + 1) z (by omega) (by omega)]; simp; omega
   ·rw [if_pos rfl, sb, sb, if_pos rfl, w_succ (by omega), w_succ (by omega), w_succ (by omega), ihm (k + 1) (by omega) (y + 1) (z + 1) (by omega) (by omega)]; simp; omega
 have loop : ∀ (m i : Nat), i + m = l.length → ∀ a : Bool, (a = true → ∀ j, ∀ hj : j < l.length, j < i → l[j].fKind = 2) → ∃ a', m_l_FnSort_L14 l s a (i : Int) = some (.inl a') ∧ (a' = true → ∀ v ∈ l, v.fKind = 2) := by
  intro m
  induction m with
  | zero =>
   intro i hi a ha
   refine ⟨a, by rw [m_l_FnSort_L14, if_neg (by omega)], fun h v hv => ?_⟩
   obtain ⟨j, hj, rfl⟩ := List.mem_iff_getElem.1 hv
   exact ha h j hj (by omega)
  | succ m ihm =>
   intro i hi a ha
   have hlt : i < l.length := by omega
   have ec := cnt i hlt l.length 0 (by omega) 0 0 (by omega) (by omega)
   replace ec : m_l_FnSort_L18 l s (i : Int) 0 0 0 = _ := ec
   have hcp : (l.drop 0).countP (same l[i]) = (s.drop 0).countP (same l[i]) := by rw [List.drop_zero, List.drop_zero]; exact (hp.countP_eq _).symm
   rw [m_l_FnSort_L14, if_pos (by omega), ec, hcp]
   have nxt : ∀ a2 : Bool, (a2 = true → a = true ∧ l[i].fKind = 2) → ∃ a', m_l_FnSort_L14 l s a2 (W64 ((i : Int) + 1)) = some (.inl a') ∧ (a' = true → ∀ v ∈ l, v.fKind = 2) := fun a2 h2 => by
    rw [w_succ (by omega)]
    refine ihm (i + 1) (by omega) a2 (fun h j hj hji => ?_)
    obtain ⟨g1, g2⟩ := h2 h
    by_cases hj2 : j = i
    ·subst hj2; exact g2
    ·exact ha g1 j hj (by omega)
   cases a with
   | true =>
    rw [if_pos rfl, idx_nat hlt, sb, sb, sb]
    dsimp only
    rw [if_pos rfl, sb]
    exact nxt _ (fun h => ⟨rfl, eq_of_beq h⟩)
   | false =>
    rw [if_neg (by decide), sb, sb]
    dsimp only
    rw [if_pos rfl, sb]
    exact nxt _ (fun h => by cases h)
 obtain ⟨a, e3, h3⟩ := loop l.length 0 (by omega) true (fun _ j _ h => absurd h (by omega))
 replace e3 : m_l_FnSort_L14 l s true 0 = some (.inl a) := e3
 rw [e1, sb, e2, sb, e3, sb]
 dsimp only
 rw [if_pos (by omega)]
 cases a with
 | true =>
  have hk := h3 rfl
  rw [if_pos rfl, ordered_ok (by omega) (fun v hv => hk v (hp.mem_iff.1 hv)) (hU hk), sb]
 | false => rw [if_neg (by decide)]
theorem lawSort (b : List UInt8) : ACall Tryd.prog 3 [sl 1 cB b] [] (fun res _ => res = .bool true) := (ok_l_FnSort (law_sort b)).mono (fun _ _ h => h.1)
end Go.Am
