/- Values: their size, their weight, and what a valid one is. -/
import Derived.Test.YtgkniabpdgaoiaaDoorW3
import Derived.Test.YtgkniabpdgaoiaaDoorU1
set_option linter.unusedVariables false
set_option linter.unusedSimpArgs false
namespace Go.Am
open Go Go.RowKit Go.Proofs
mutual
def TValue.wt : TValue → Nat | .mk _ _ _ _ l => 1 + TEntry.wtL l
def TEntry.wt : TEntry → Nat | .mk _ v => v.wt
def TEntry.wtL : List TEntry → Nat | [] => 0 | x :: r => x.wt + TEntry.wtL r
end
theorem TValue.wt_eq (v : TValue) : v.wt = 1 + TEntry.wtL v.fItems := by cases v; simp [TValue.wt]
theorem TEntry.wt_eq (e : TEntry) : e.wt = e.fVal.wt := by cases e; simp [TEntry.wt]
theorem wt_pos (v : TValue) : 1 ≤ v.wt := by rw [v.wt_eq]; omega
theorem wtL_nil : TEntry.wtL [] = 0 := by simp [TEntry.wtL]
theorem wtL_cons (x : TEntry) (r : List TEntry) : TEntry.wtL (x :: r) = x.fVal.wt + TEntry.wtL r := by rw [← x.wt_eq]; simp [TEntry.wtL]
theorem wtL_app : ∀ a b : List TEntry, TEntry.wtL (a ++ b) = TEntry.wtL a + TEntry.wtL b
 | [], b => by rw [List.nil_append, wtL_nil, Nat.zero_add]
 | x :: r, b => by rw [List.cons_append, wtL_cons, wtL_cons, wtL_app r b]; omega
theorem wtL_mem : ∀ (l : List TEntry) (e : TEntry), e ∈ l → e.fVal.wt ≤ TEntry.wtL l
 | x :: r, e, h => by
  rw [wtL_cons]
  rcases List.mem_cons.1 h with rfl | h
  ·omega
  ·have := wtL_mem r e h; omega
theorem wtL_len : ∀ l : List TEntry, l.length ≤ TEntry.wtL l
 | [] => by simp
 | x :: r => by rw [wtL_cons]; have := wtL_len r; have := wt_pos x.fVal; simp only [List.length_cons]; omega
theorem Sm.of_wt : ∀ (n : Nat), n ≤ 1000000 → ∀ v : TValue, v.wt ≤ n → Sm v
 | 0, _, v, h => by have := wt_pos v; omega
 | n + 1, hn, v, h => by
  rw [v.wt_eq] at h
  refine Sm.of (by have := wtL_len v.fItems; omega) (fun e he => Sm.of_wt n (by omega) e.fVal ?_)
  have := wtL_mem _ e he
  omega
theorem sm_wt {v : TValue} (h : v.wt ≤ 1000000) : Sm v := Sm.of_wt _ (Nat.le_refl _) v h
theorem wt_len {v : TValue} : v.fItems.length < v.wt := by rw [v.wt_eq]; have := wtL_len v.fItems; omega
theorem wt_item {v : TValue} {e : TEntry} (he : e ∈ v.fItems) : e.fVal.wt < v.wt := by rw [v.wt_eq]; have := wtL_mem _ e he; omega
end Go.Am
