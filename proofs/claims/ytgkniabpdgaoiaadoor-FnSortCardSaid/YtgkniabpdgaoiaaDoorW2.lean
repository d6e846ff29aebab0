/- The plain law, second part: values. -/
import Derived.Test.YtgkniabpdgaoiaaDoorF3
import Derived.Test.YtgkniabpdgaoiaaDoorW1
set_option linter.unusedVariables false
set_option linter.unusedSimpArgs false
namespace Go.Am
open Go Go.RowKit Go.Proofs
theorem some_bind {α β : Type} {x : Option α} {f : α → Option β} (h : ∃ a, x = some a) (hf : ∀ a, ∃ r, f a = some r) : ∃ r, (x >>= f) = some r := by
 obtain ⟨a, rfl⟩ := h
 exact hf a
theorem some_ite {α : Type} {c : Prop} [Decidable c] {x y : Option α} (h1 : c → ∃ r, x = some r) (h2 : ¬ c → ∃ r, y = some r) : ∃ r, (if c then x else y) = some r := by
 split
 ·exact h1 ‹_›
 ·exact h2 ‹_›
theorem TEntry.eta (e : TEntry) : TEntry.mk e.fKey e.fVal = e := by cases e; rfl
theorem TValue.eta (v : TValue) : TValue.mk v.fKind v.fNum v.fStr v.fNext v.fItems = v := by cases v; rfl
theorem TKey.eta (k : TKey) : TKey.mk k.fText k.fNum k.fStr = k := rfl
inductive Sm : TValue → Prop
 | mk {k n : Int} {s : Str} {x : Int} {l : List TEntry} (h : l.length ≤ 1000000) (hl : ∀ e ∈ l, Sm e.fVal) : Sm (.mk k n s x l)
theorem Sm.len {v : TValue} (h : Sm v) : v.fItems.length ≤ 1000000 := by cases h; assumption
theorem Sm.item {v : TValue} (h : Sm v) : ∀ e ∈ v.fItems, Sm e.fVal := by cases h; assumption
theorem Sm.of {v : TValue} (h : v.fItems.length ≤ 1000000) (hl : ∀ e ∈ v.fItems, Sm e.fVal) : Sm v := by
 cases v; exact .mk h hl
theorem m46_eq {v : TValue} (h : Sm v) : m46 v = some v := by
 induction h with
 | mk hl hi ih =>
  rename_i k n s x l
  have go : ∀ m i : Nat, i ≤ l.length → l.length - i = m → m46_L2 (.mk k n s x l) (l.take i) (i : Int) = some l := by
   intro m
   induction m with
   | zero =>
    intro i h1 h2
    have : i = l.length := by omega
    rw [m46_L2, TValue.fItems_mk, if_neg (by omega), this, List.take_length]
   | succ m ihm =>
    intro i h1 h2
    have hlt : i < l.length := by omega
    have e1 : idx l (i : Int) = some l[i] := idx_nat hlt
    rw [m46_L2, TValue.fItems_mk, if_pos (by omega), e1, sb, ih _ (List.getElem_mem hlt), sb,
     lapp_eq (by rw [List.length_take]; simp only [List.length_cons, List.length_nil]; omega), sb, TEntry.eta, List.take_append_getElem hlt, w_succ (by omega)]
    exact ihm (i + 1) (by omega) (by omega)
  have e := go l.length 0 (by omega) (by omega)
  rw [m46]
  replace e : m46_L2 (.mk k n s x l) [] 0 = some l := e
  rw [e]; rfl
def At (l : List TEntry) (k : TKey) (r : Int) : Prop :=
 (r = -1 ∧ ∀ e ∈ l, e.fKey ≠ k) ∨ ∃ j, ∃ h : j < l.length, r = (j : Int) ∧ l[j].fKey = k ∧ ∀ i, ∀ hi : i < j, (l[i]'(by omega)).fKey ≠ k
theorem m90_go (v : TValue) (k : TKey) (hk : v.fKind = 4) (hl : v.fItems.length ≤ 2000000) : ∀ m i : Nat, i ≤ v.fItems.length → v.fItems.length - i = m →
  (∀ j, ∀ hj : j < i, ∀ hj2 : j < v.fItems.length, v.fItems[j].fKey ≠ k) → ∃ r, m90_L2 v k (i : Int) = some r ∧ ((r = .inl () ∧ ∀ e ∈ v.fItems, e.fKey ≠ k) ∨ ∃ q, r = .inr q ∧ At v.fItems k q) := by
 intro m
 induction m with
 | zero =>
  intro i h1 h2 h3
  rw [m90_L2, if_pos hk, if_neg (by omega)]
  refine ⟨_, rfl, .inl ⟨rfl, fun e he => ?_⟩⟩
  obtain ⟨j, hj, rfl⟩ := List.mem_iff_getElem.1 he
  exact h3 j (by omega) hj
 | succ m ihm =>
  intro i h1 h2 h3
  have hlt : i < v.fItems.length := by omega
  rw [m90_L2, if_pos hk, if_pos (by omega), idx_nat hlt, sb]
  by_cases he : v.fItems[i].fKey = k
  ·rw [if_pos he]
   exact ⟨_, rfl, .inr ⟨_, rfl, .inr ⟨i, hlt, rfl, he, fun j hj => h3 j hj (by omega)⟩⟩⟩
  ·rw [if_neg he, w_succ (by omega)]
   refine ihm (i + 1) (by omega) (by omega) (fun j hj hj2 => ?_)
   rcases Nat.lt_or_ge j i with h4 | h4
   ·exact h3 j h4 hj2
   ·obtain rfl : j = i := by omega
    exact he
theorem m90_at (v : TValue) (k : TKey) (hk : v.fKind = 4) (hl : v.fItems.length ≤ 2000000) : ∃ r, m90 v k = some r ∧ At v.fItems k r := by
 obtain ⟨r, e, h⟩ := m90_go v k hk hl v.fItems.length 0 (by omega) (by omega) (fun j hj => absurd hj (Nat.not_lt_zero _))
 replace e : m90_L2 v k 0 = some r := e
 unfold m90
 rw [e, sb]
 rcases h with ⟨rfl, h⟩ | ⟨q, rfl, h⟩
 ·exact ⟨_, rfl, .inl ⟨rfl, h⟩⟩
 ·exact ⟨_, rfl, h⟩
theorem m90_not (v : TValue) (k : TKey) (hk : ¬ v.fKind = 4) : m90 v k = some (-1) := by
 unfold m90
 rw [m90_L2, if_neg hk]; rfl
theorem m90_some (v : TValue) (k : TKey) (hl : v.fItems.length ≤ 2000000) : ∃ r, m90 v k = some r ∧ -1 ≤ r ∧ r < v.fItems.length := by
 by_cases hk : v.fKind = 4
 ·obtain ⟨r, e, h⟩ := m90_at v k hk hl
  refine ⟨r, e, ?_⟩
  rcases h with ⟨rfl, _⟩ | ⟨j, hj, rfl, _⟩ <;> omega
 ·exact ⟨_, m90_not v k hk, by omega, by omega⟩
theorem m27_go (v : TValue) (k : TKey) (hl : v.fItems.length ≤ 2000000) : ∀ m i : Nat, i ≤ v.fItems.length → v.fItems.length - i = m →
  (∀ j, ∀ hj : j < i, ∀ hj2 : j < v.fItems.length, v.fItems[j].fKey ≠ k) → ∃ r, m27_L2 v k (i : Int) = some r ∧ ((r = .inl () ∧ ∀ e ∈ v.fItems, e.fKey ≠ k) ∨ ∃ q, r = .inr q ∧ At v.fItems k q) := by
 intro m
 induction m with
 | zero =>
  intro i h1 h2 h3
  rw [m27_L2, if_neg (by omega)]
  refine ⟨_, rfl, .inl ⟨rfl, fun e he => ?_⟩⟩
  obtain ⟨j, hj, rfl⟩ := List.mem_iff_getElem.1 he
  exact h3 j (by omega) hj
 | succ m ihm =>
  intro i h1 h2 h3
  have hlt : i < v.fItems.length := by omega
  rw [m27_L2, if_pos (by omega), idx_nat hlt, sb]
  by_cases he : v.fItems[i].fKey = k
  ·rw [if_pos he]
   exact ⟨_, rfl, .inr ⟨_, rfl, .inr ⟨i, hlt, rfl, he, fun j hj => h3 j hj (by omega)⟩⟩⟩
  ·rw [if_neg he, w_succ (by omega)]
   refine ihm (i + 1) (by omega) (by omega) (fun j hj hj2 => ?_)
   rcases Nat.lt_or_ge j i with h4 | h4
   ·exact h3 j h4 hj2
   ·obtain rfl : j = i := by omega
    exact he
theorem m27_at (v : TValue) (k : TKey) (hk : v.fKind = 4) (hl : v.fItems.length ≤ 2000000) : ∃ r, m27 v k = some r ∧ At v.fItems k r := by
 obtain ⟨r, e, h⟩ := m27_go v k hl v.fItems.length 0 (by omega) (by omega) (fun j hj => absurd hj (Nat.not_lt_zero _))
 replace e : m27_L2 v k 0 = some r := e
 unfold m27
 rw [if_pos hk, e, sb]
 rcases h with ⟨rfl, h⟩ | ⟨q, rfl, h⟩
 ·exact ⟨_, rfl, .inl ⟨rfl, h⟩⟩
 ·exact ⟨_, rfl, h⟩
end Go.Am
