/- Values: their size, their weight, and what a valid one is. -/
import Derived.Test.YtcipcpjmialcoaaDoorW3
import Derived.Test.YtcipcpjmialcoaaDoorU1
set_option linter.unusedVariables false
set_option linter.unusedSimpArgs false
namespace Go.Am
open Go Go.RowKit Go.Proofs
mutual
def TValue.wt : TValue → Nat | .mk _ _ _ _ l => 1 + TEntry.wtL l
def TEntry.wt : TEntry → Nat | .mk _ v => v.wt
def TEntry.wtL : List TEntry → Nat | [] => 0 | x :: r => x.wt + TEntry.wtL r
end
theorem TValue.wt_eq (v : TValue) : v.wt = 1 + TEntry.wtL v.fItems := by cases v; simp [TValue.wt]
theorem TEntry.wt_eq (e : TEntry) : e.wt = e.fVal.wt := by cases e; simp [TEntry.wt]
theorem wt_pos (v : TValue) : 1 ≤ v.wt := by rw [v.wt_eq]; omega
theorem wtL_nil : TEntry.wtL [] = 0 := by simp [TEntry.wtL]
theorem wtL_cons (x : TEntry) (r : List TEntry) : TEntry.wtL (x :: r) = x.fVal.wt + TEntry.wtL r := by rw [← x.wt_eq]; simp [TEntry.wtL]
theorem wtL_app : ∀ a b : List TEntry, TEntry.wtL (a ++ b) = TEntry.wtL a + TEntry.wtL b
 | [], b => by rw [List.nil_append, wtL_nil, Nat.zero_add]
 | x :: r, b => by rw [List.cons_append, wtL_cons, wtL_cons, wtL_app r b]; omega
theorem wtL_mem : ∀ (l : List TEntry) (e : TEntry), e ∈ l → e.fVal.wt ≤ TEntry.wtL l
 | x :: r, e, h => by
  rw [wtL_cons]
  rcases List.mem_cons.1 h with rfl | h
  ·omega
  ·have := wtL_mem r e h; omega
theorem wtL_len : ∀ l : List TEntry, l.length ≤ TEntry.wtL l
 | [] => by simp
 | x :: r => by rw [wtL_cons]; have := wtL_len r; have := wt_pos x.fVal; simp only [List.length_cons]; omega
theorem wtL_set : ∀ (l : List TEntry) (i : Nat) (e : TEntry), TEntry.wtL (l.set i e) ≤ TEntry.wtL l + e.fVal.wt
 | [], i, e => by simp [wtL_nil]
 | x :: r, 0, e => by rw [List.set_cons_zero, wtL_cons, wtL_cons]; omega
 | x :: r, i + 1, e => by rw [List.set_cons_succ, wtL_cons, wtL_cons]; have := wtL_set r i e; omega
theorem Sm.of_wt : ∀ (n : Nat), n ≤ 2000000 → ∀ v : TValue, v.wt ≤ n → Sm v
 | 0, _, v, h => by have := wt_pos v; omega
 | n + 1, hn, v, h => by
  rw [v.wt_eq] at h
  refine Sm.of (by have := wtL_len v.fItems; omega) (fun e he => Sm.of_wt n (by omega) e.fVal ?_)
  have := wtL_mem _ e he
  omega
theorem sm_wt {v : TValue} (h : v.wt ≤ 2000000) : Sm v := Sm.of_wt _ (Nat.le_refl _) v h
theorem wt_len {v : TValue} : v.fItems.length < v.wt := by rw [v.wt_eq]; have := wtL_len v.fItems; omega
theorem wt_item {v : TValue} {e : TEntry} (he : e ∈ v.fItems) : e.fVal.wt < v.wt := by rw [v.wt_eq]; have := wtL_mem _ e he; omega
mutual
def TValue.kw : TValue → Nat | .mk k _ _ _ l => if k = 4 then 1 + TEntry.kwL l else 1
def TEntry.kw : TEntry → Nat | .mk _ v => v.kw
def TEntry.kwL : List TEntry → Nat | [] => 0 | x :: r => x.kw + TEntry.kwL r
end
theorem TValue.kw_eq (v : TValue) : v.kw = if v.fKind = 4 then 1 + TEntry.kwL v.fItems else 1 := by cases v; unfold TValue.kw; rfl
theorem TEntry.kw_eq (e : TEntry) : e.kw = e.fVal.kw := by cases e; simp [TEntry.kw]
theorem kwL_nil : TEntry.kwL [] = 0 := by simp [TEntry.kwL]
theorem kwL_cons (x : TEntry) (r : List TEntry) : TEntry.kwL (x :: r) = x.fVal.kw + TEntry.kwL r := by rw [← x.kw_eq]; simp [TEntry.kwL]
theorem kwL_le (n : Nat) (ih : ∀ v : TValue, v.wt ≤ n → v.kw ≤ v.wt) : ∀ l : List TEntry, TEntry.wtL l ≤ n → TEntry.kwL l ≤ TEntry.wtL l
 | [], _ => by rw [kwL_nil]; omega
 | x :: r, h => by
  rw [wtL_cons] at h
  rw [kwL_cons, wtL_cons]
  have := ih x.fVal (by omega)
  have := kwL_le n ih r (by omega)
  omega
theorem kw_le_n : ∀ (n : Nat) (v : TValue), v.wt ≤ n → v.kw ≤ v.wt
 | 0, v, h => by have := wt_pos v; omega
 | n + 1, v, h => by
  have h' := h
  rw [v.wt_eq] at h'
  rw [v.kw_eq, v.wt_eq]
  split
  ·have := kwL_le n (kw_le_n n) v.fItems (by omega); omega
  ·omega
theorem kw_le (v : TValue) : v.kw ≤ v.wt := kw_le_n _ v (Nat.le_refl _)
theorem kw_pos (v : TValue) : 1 ≤ v.kw := by rw [v.kw_eq]; split <;> omega
theorem kwL_drop {l : List TEntry} {i : Nat} (h : i < l.length) : TEntry.kwL (l.drop i) = l[i].fVal.kw + TEntry.kwL (l.drop (i + 1)) := by rw [List.drop_eq_getElem_cons h, kwL_cons]
theorem kwL_mono : ∀ (l : List TEntry) (i : Nat), TEntry.kwL (l.drop i) ≤ TEntry.kwL l
 | l, 0 => by simp
 | [], i + 1 => by simp
 | x :: r, i + 1 => by rw [List.drop_succ_cons, kwL_cons]; have := kwL_mono r i; omega
theorem w_of {x : Int} {n : Nat} (h : x = (n : Int)) (hn : n < 9000000000000000000) : W64 x = (n : Int) := by subst h; rw [W64, w64 (by omega) (by omega)]
theorem weight_eq : ∀ (n : Nat), n ≤ 2000000 → ∀ v : TValue, v.wt ≤ n → m_i_Weight v = some (v.kw : Int)
 | 0, _, v, h => by have := wt_pos v; omega
 | n + 1, hn, v, h => by
  have hlen := wt_len (v := v)
  have hkw := kw_le v
  rw [m_i_Weight, v.kw_eq]
  by_cases hk : v.fKind = 4
  ·rw [v.kw_eq, if_pos hk] at hkw
   have go : ∀ m i : Nat, i ≤ v.fItems.length → v.fItems.length - i = m → ∀ y : Nat, y + TEntry.kwL (v.fItems.drop i) = 1 + TEntry.kwL v.fItems → m_i_Weight_L2 v (y : Int) (i : Int) = some ((1 + TEntry.kwL v.fItems : Nat) : Int) := by
    intro m
    induction m with
    | zero =>
     intro i h1 h2 y hy
     rw [m_i_Weight_L2, if_neg (by omega)]
     rw [List.drop_of_length_le (by omega), kwL_nil] at hy
     rw [← hy]; rfl
    | succ m ihm =>
     intro i h1 h2 y hy
     have hlt : i < v.fItems.length := by omega
     rw [kwL_drop hlt] at hy
     have hit := wt_item (List.getElem_mem hlt)
     rw [m_i_Weight_L2, if_pos (by omega), idx_nat hlt, sb, weight_eq n (by omega) _ (by omega), sb, w_succ (by omega), w_of (n := y + v.fItems[i].fVal.kw) (by omega) (by omega)]
     exact ihm (i + 1) (by omega) (by omega) _ (by omega)
   have e := go v.fItems.length 0 (by omega) (by omega) 1 (by simp)
   replace e : m_i_Weight_L2 v 1 0 = some ((1 + TEntry.kwL v.fItems : Nat) : Int) := e
   rw [if_pos hk, if_pos hk, e, sb]
  ·rw [if_neg hk, if_neg hk, sb]; rfl
theorem weigh_eq : ∀ (n : Nat), n ≤ 2000000 → ∀ v : TValue, v.wt ≤ n → ∀ q : Int, -2000000 ≤ q → q ≤ 2000000 → ∃ r : Nat, m51 v q = some (r : Int) ∧ r ≤ v.kw ∧ ((v.kw : Int) ≤ q → r = v.kw) ∧ (q < (v.kw : Int) → q < (r : Int))
 | 0, _, v, h => by have := wt_pos v; omega
 | n + 1, hn, v, h => by
  intro q hq0 hq1
  have hlen := wt_len (v := v)
  have hkw := kw_le v
  by_cases hk : v.fKind = 4
  ·have ekw : v.kw = 1 + TEntry.kwL v.fItems := by rw [v.kw_eq, if_pos hk]
   have go : ∀ m i : Nat, i ≤ v.fItems.length → v.fItems.length - i = m → ∀ y : Nat, y + TEntry.kwL (v.fItems.drop i) ≤ v.kw → ((y : Int) ≤ q → y + TEntry.kwL (v.fItems.drop i) = v.kw) →
     ∃ r : Nat, m51_L2 v q (y : Int) (i : Int) = some (r : Int) ∧ r ≤ v.kw ∧ ((v.kw : Int) ≤ q → r = v.kw) ∧ (q < (v.kw : Int) → q < (r : Int)) := by
    intro m
    induction m with
    | zero =>
     intro i h1 h2 y hy hy2
     rw [List.drop_of_length_le (by omega), kwL_nil] at hy hy2
     rw [m51_L2, if_pos hk, if_neg (by omega)]
     exact ⟨y, rfl, by omega, fun h => by omega, fun h => by omega⟩
    | succ m ihm =>
     intro i h1 h2 y hy hy2
     have hlt : i < v.fItems.length := by omega
     have hit := wt_item (List.getElem_mem hlt)
     rw [kwL_drop hlt] at hy hy2
     rw [m51_L2, if_pos hk, if_pos (by omega)]
     by_cases hyq : (y : Int) ≤ q
     ·have e1 : W64 (q - (y : Int)) = q - y := by rw [W64, w64 (by omega) (by omega)]
      obtain ⟨r, e, g1, g2, g3⟩ := weigh_eq n (by omega) v.fItems[i].fVal (by omega) (q - y) (by omega) (by omega)
      rw [if_pos hyq, idx_nat hlt, sb, e1, e, sb, w_succ (by omega), w_of (n := y + r) (by omega) (by omega)]
      exact ihm (i + 1) (by omega) (by omega) _ (by omega) (fun h => by omega)
     ·rw [if_neg hyq]
      exact ⟨y, rfl, by omega, fun h => by omega, fun h => by omega⟩
   obtain ⟨r, e, g⟩ := go v.fItems.length 0 (by omega) (by omega) 1 (by simp; omega) (fun _ => by simp; omega)
   replace e : m51_L2 v q 1 0 = some (r : Int) := e
   rw [m51, e, sb]
   exact ⟨r, rfl, g⟩
  ·have ekw : v.kw = 1 := by rw [v.kw_eq, if_neg hk]
   rw [m51, m51_L2, if_neg hk, sb]
   exact ⟨1, rfl, by omega, fun _ => by omega, fun h => by omega⟩
mutual
def TValue.vok : TValue → Bool
 | .mk k n s x l => (decide (k = 3) || s == []) && (decide (k = 4) || (decide (x = 0) && l.isEmpty)) &&
   (if k = 0 then n == 0 else if k = 1 then (decide (n = 0) || n == 1) else if k = 2 then decide (-1000000000 ≤ n ∧ n ≤ 1000000000) else if k = 3 then (decide (n = 0) && decide ((s.length : Int) ≤ 400))
    else if k = 6 ∨ k = 7 ∨ k = 8 then decide (0 ≤ n ∧ n ≤ 255) else if k = 4 then decide (n = 0) && decide (0 ≤ x ∧ x ≤ 1000000001) && TEntry.vokL l x [] else false)
def TEntry.vokE : TEntry → Bool | .mk _ v => v.vok
def TEntry.vokL : List TEntry → Int → List TKey → Bool
 | [], _, _ => true
 | e :: r, x, seen => vk e.fKey && (e.fKey.fText || decide (e.fKey.fNum < x)) && !(decide (e.fKey ∈ seen)) && e.vokE && TEntry.vokL r x (seen ++ [e.fKey])
end
theorem vokE_eq (e : TEntry) : e.vokE = e.fVal.vok := by cases e; simp [TEntry.vokE]
theorem vokL_nil (x : Int) (s : List TKey) : TEntry.vokL [] x s = true := by simp [TEntry.vokL]
theorem vokL_cons (e : TEntry) (r : List TEntry) (x : Int) (s : List TKey) : TEntry.vokL (e :: r) x s = (vk e.fKey && (e.fKey.fText || decide (e.fKey.fNum < x)) && !(decide (e.fKey ∈ s)) && e.fVal.vok && TEntry.vokL r x (s ++ [e.fKey])) := by
 rw [← vokE_eq]; simp [TEntry.vokL]
theorem vok_eq (k n : Int) (s : Str) (x : Int) (l : List TEntry) : (TValue.mk k n s x l).vok = ((decide (k = 3) || s == []) && (decide (k = 4) || (decide (x = 0) && l.isEmpty)) &&
   (if k = 0 then n == 0 else if k = 1 then (decide (n = 0) || n == 1) else if k = 2 then decide (-1000000000 ≤ n ∧ n ≤ 1000000000) else if k = 3 then (decide (n = 0) && decide ((s.length : Int) ≤ 400))
    else if k = 6 ∨ k = 7 ∨ k = 8 then decide (0 ≤ n ∧ n ≤ 255) else if k = 4 then decide (n = 0) && decide (0 ≤ x ∧ x ≤ 1000000001) && TEntry.vokL l x [] else false)) := by simp [TValue.vok]
def VL (x : Int) (l : List TEntry) : Prop := (∀ e ∈ l, vk e.fKey = true ∧ (e.fKey.fText = true ∨ e.fKey.fNum < x) ∧ e.fVal.vok = true) ∧ (l.map (·.fKey)).Nodup
theorem vokL_iff : ∀ (l : List TEntry) (x : Int) (s : List TKey), TEntry.vokL l x s = true ↔ VL x l ∧ ∀ e ∈ l, e.fKey ∉ s
 | [], x, s => by rw [vokL_nil]; simp [VL]
 | e :: r, x, s => by
  rw [vokL_cons]
  simp only [Bool.and_eq_true, Bool.or_eq_true, Bool.not_eq_true', decide_eq_true_eq, decide_eq_false_iff_not, vokL_iff r x (s ++ [e.fKey]), VL, List.mem_cons, forall_eq_or_imp, List.map_cons, List.nodup_cons, List.mem_append, List.mem_singleton, List.mem_map, not_or, not_exists, not_and]
  constructor
  ·rintro ⟨⟨⟨⟨a1, a2⟩, a3⟩, a4⟩, ⟨b1, b2⟩, b3⟩
   exact ⟨⟨⟨⟨a1, a2, a4⟩, b1⟩, fun x hx he => (b3 x hx).2.1 he, b2⟩, a3, fun e' he' => (b3 e' he').1⟩
  ·rintro ⟨⟨⟨⟨a1, a2, a4⟩, b1⟩, c1, b2⟩, a3, c2⟩
   exact ⟨⟨⟨⟨a1, a2⟩, a3⟩, a4⟩, ⟨b1, b2⟩, fun e' he' => ⟨c2 e' he', fun h => c1 e' he' h, List.not_mem_nil⟩⟩
theorem vok_arr {v : TValue} (hk : v.fKind = 4) : v.vok = true ↔ v.fStr = [] ∧ v.fNum = 0 ∧ (0 ≤ v.fNext ∧ v.fNext ≤ 1000000001) ∧ VL v.fNext v.fItems := by
 cases v with
 | mk k n s x l =>
  simp only [TValue.fKind_mk] at hk
  subst hk
  rw [vok_eq]
  simp [vokL_iff]
  intro _
  rw [and_assoc]
end Go.Am
