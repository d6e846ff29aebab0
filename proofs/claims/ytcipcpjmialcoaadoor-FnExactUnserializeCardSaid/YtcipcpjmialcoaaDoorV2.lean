/- Both looks at a value say whether it is valid. -/
import Derived.Test.YtcipcpjmialcoaaDoorV1
set_option linter.unusedVariables false
set_option linter.unusedSimpArgs false
namespace Go.Am
open Go Go.RowKit Go.Proofs
theorem mfind_put {κ β : Type} [DecidableEq κ] : ∀ (l : List (κ × β)) (k : κ) (v : β) (k' : κ), mfind (mput l k v) k' = if k' = k then some v else mfind l k'
 | [], k, v, k' => by
  unfold mput mfind
  by_cases h : k' = k
  ·rw [if_pos h, if_pos h]
  ·rw [if_neg h, if_neg h]; rfl
 | (a, b) :: r, k, v, k' => by
  unfold mput
  by_cases hk : k = a
  ·rw [if_pos hk]
   subst hk
   simp only [mfind]
   by_cases h : k' = k
   ·rw [if_pos h, if_pos h]
   ·rw [if_neg h, if_neg h]
    rw [if_neg h]
  ·rw [if_neg hk]
   simp only [mfind, mfind_put r k v k']
   by_cases h : k' = a
   ·rw [if_pos h, if_pos h, if_neg (by rw [h]; exact fun he => hk he.symm)]
   ·rw [if_neg h, if_neg h]
theorem mgd_put {κ β : Type} [DecidableEq κ] (l : List (κ × β)) (k : κ) (v : β) (k' : κ) (z : β) : mgd (mput l k v) k' z = if k' = k then v else mgd l k' z := by
 unfold mgd
 rw [mfind_put]
 split <;> rfl
def restO (b : Bool) : (Unit) ⊕ ((Unit) ⊕ Bool) := if b = true then .inl () else .inr (.inr false)
theorem vokL_drop {l : List TEntry} {x : Int} {i : Nat} (h : i < l.length) : TEntry.vokL (l.drop i) x ((l.take i).map (·.fKey)) =
  (vk l[i].fKey && (l[i].fKey.fText || decide (l[i].fKey.fNum < x)) && !(decide (l[i].fKey ∈ (l.take i).map (·.fKey))) && l[i].fVal.vok && TEntry.vokL (l.drop (i + 1)) x ((l.take (i + 1)).map (·.fKey))) := by
 rw [List.drop_eq_getElem_cons h, vokL_cons, ← List.take_append_getElem h, List.map_append]; rfl
theorem mem_take {l : List TEntry} {i : Nat} {k : TKey} (hi : i ≤ l.length) : k ∈ (l.take i).map (·.fKey) ↔ ∃ j, ∃ h : j < i, (l[j]'(by omega)).fKey = k := by
 rw [List.mem_map]
 constructor
 ·rintro ⟨e, he, rfl⟩
  obtain ⟨j, hj, rfl⟩ := List.mem_iff_getElem.1 he
  rw [List.length_take] at hj
  exact ⟨j, by omega, by rw [List.getElem_take]⟩
 ·rintro ⟨j, h, rfl⟩
  exact ⟨l[j]'(by omega), List.mem_iff_getElem.2 ⟨j, by rw [List.length_take]; omega, by rw [List.getElem_take]⟩, rfl⟩
theorem valid_eq : ∀ (n : Nat), n ≤ 2000000 → ∀ v : TValue, v.wt ≤ n → m52 v = some v.vok
 | 0, _, v, h => by have := wt_pos v; omega
 | n + 1, hn, v, h => by
  have hlen := wt_len (v := v)
  cases v with
  | mk k q s x l =>
   have loop : k = 4 → m52_L4 (.mk k q s x l) 0 = some (restO (TEntry.vokL l x [])) := fun hk => by
    have go : ∀ m i : Nat, i ≤ l.length → l.length - i = m → m52_L4 (.mk k q s x l) (i : Int) = some (restO (TEntry.vokL (l.drop i) x ((l.take i).map (·.fKey)))) := by
     intro m
     induction m with
     | zero =>
      intro i h1 h2
      rw [m52_L4, TValue.fItems_mk, if_neg (by omega), List.drop_of_length_le (by omega), vokL_nil]; rfl
     | succ m ihm =>
      intro i h1 h2
      have hlt : i < l.length := by omega
      have hit := wt_item (v := .mk k q s x l) (e := l[i]) (List.getElem_mem hlt)
      obtain ⟨r9, e9, a9⟩ := m90_at (.mk k q s x l) l[i].fKey hk (show l.length ≤ 4000000 by simp only [TValue.fItems_mk] at hlen; omega)
      have hr9 : r9 = (i : Int) ↔ l[i].fKey ∉ (l.take i).map (·.fKey) := by
       rw [mem_take (by omega)]
       constructor
       ·rintro rfl ⟨j, hj, he⟩
        exact at_first a9 (show i < l.length from hlt) j hj he
       ·intro hno
        exact a9.uniq (show i < l.length from hlt) rfl (fun j hj he => hno ⟨j, hj, he⟩)
      rw [m52_L4, TValue.fItems_mk, if_pos (by omega), idx_nat hlt, sb, m23_eq, sb, e9, sb, sb, valid_eq n (by omega) _ (by omega), sb, vokL_drop hlt]
      have ih := ihm (i + 1) (by omega) (by omega)
      rw [w_succ (by simp only [TValue.fItems_mk] at hlen; omega), ih]
      cases hvk : vk l[i].fKey with
      | false => rfl
      | true =>
       simp only [if_true, Bool.true_and, TValue.fNext_mk, hr9]
       cases hvo : l[i].fVal.vok with
       | false =>
        simp only [Bool.and_false, Bool.false_and, Bool.false_eq_true, if_false]
        repeat (first | rfl | split)
       | true =>
        simp only [if_true, Bool.and_true]
        cases ht : l[i].fKey.fText with
        | true =>
         simp only [if_true, Bool.true_or, Bool.true_and]
         by_cases hm : l[i].fKey ∈ (l.take i).map (·.fKey)
         ·rw [if_neg (fun h => h hm), decide_eq_true hm]; rfl
         ·rw [if_pos hm, decide_eq_false hm]; rfl
        | false =>
         simp only [Bool.false_eq_true, if_false, Bool.false_or]
         by_cases hx : l[i].fKey.fNum < x
         ·rw [if_neg (by omega), decide_eq_true hx]
          by_cases hm : l[i].fKey ∈ (l.take i).map (·.fKey)
          ·rw [if_neg (fun h => h hm), decide_eq_true hm]; rfl
          ·rw [if_pos hm, decide_eq_false hm]; rfl
         ·rw [if_pos (by omega), decide_eq_false hx]; rfl
    exact go l.length 0 (by omega) (by omega)
   rw [m52, vok_eq]
   simp only [TValue.fKind_mk, TValue.fNum_mk, TValue.fStr_mk, TValue.fNext_mk, TValue.fItems_mk, m53_eq, sb]
   by_cases h4 : k = 4
   ·rw [loop h4]
    subst h4
    by_cases hs : s = [] <;> by_cases hq : q = 0 <;> by_cases hx : 0 ≤ x ∧ x ≤ 1000000001 <;> cases TEntry.vokL l x [] <;> simp [hs, hq, hx, sb, restO]
   ·by_cases h3 : k = 3
    ·subst h3
     by_cases hx : x = 0 <;> by_cases hq : q = 0 <;> cases l <;> simp [hx, hq, sb] <;> try rfl
    ·by_cases hs : s = []
     ·by_cases hx : x = 0
      ·cases l with
       | cons e r => simp [h3, h4, hs, hx, sb]
       | nil =>
        by_cases h0 : k = 0
        ·subst h0; simp [hs, hx, sb]
        ·by_cases h1 : k = 1
         ·subst h1
          by_cases q0 : q = 0
          ·subst q0; simp [hs, hx, sb]
          ·by_cases q1 : q = 1
           ·subst q1; simp [hs, hx, sb]
           ·have hn2 : ¬ (0 ≤ q ∧ q ≤ 1) := by omega
            have hn3 : decide (0 ≤ q ∧ q ≤ 1) = false := decide_eq_false hn2
            have hn4 : decide (q = 0) = false := decide_eq_false q0
            simp [hs, hx, sb, q0, q1, hn2]
            try omega
         ·by_cases h2 : k = 2
          ·subst h2; simp [hs, hx, sb]
          ·by_cases h6 : k = 6
           ·subst h6; simp [hs, hx, sb]
           ·by_cases h7 : k = 7
            ·subst h7; simp [hs, hx, sb]
            ·by_cases h8 : k = 8
             ·subst h8; simp [hs, hx, sb]
             ·simp [h0, h1, h2, h3, h4, h6, h7, h8, hs, hx, sb]
      ·simp [h3, h4, hs, hx, sb]
     ·simp [h3, h4, hs, sb]
theorem wellFormed_eq : ∀ (n : Nat), n ≤ 2000000 → ∀ v : TValue, v.wt ≤ n → m_i_wellFormed v = some v.vok
 | 0, _, v, h => by have := wt_pos v; omega
 | n + 1, hn, v, h => by
  have hlen := wt_len (v := v)
  cases v with
  | mk k q s x l =>
   have loop : m_i_wellFormed_L4 (.mk k q s x l) [] 0 = some (restO (TEntry.vokL l x [])) := by
    have go : ∀ m i : Nat, i ≤ l.length → l.length - i = m → ∀ sn : List (TKey × Bool), (∀ k, mgd sn k false = true ↔ k ∈ (l.take i).map (·.fKey)) → m_i_wellFormed_L4 (.mk k q s x l) sn (i : Int) = some (restO (TEntry.vokL (l.drop i) x ((l.take i).map (·.fKey)))) := by
     intro m
     induction m with
     | zero =>
      intro i h1 h2 sn hsn
      rw [m_i_wellFormed_L4, TValue.fItems_mk, if_neg (by omega), List.drop_of_length_le (by omega), vokL_nil]; rfl
     | succ m ihm =>
      intro i h1 h2 sn hsn
      have hlt : i < l.length := by omega
      have hit := wt_item (v := .mk k q s x l) (e := l[i]) (List.getElem_mem hlt)
      rw [m_i_wellFormed_L4, TValue.fItems_mk, if_pos (by omega), idx_nat hlt, sb, m55_eq, sb, wellFormed_eq n (by omega) _ (by omega), sb, vokL_drop hlt]
      have ih := ihm (i + 1) (by omega) (by omega) (mput sn l[i].fKey true) (fun k => by
       rw [mgd_put, ← List.take_append_getElem hlt, List.map_append, List.mem_append, List.map_singleton, List.mem_singleton, ← hsn k]
       by_cases hk : k = l[i].fKey
       ·rw [if_pos hk]; simp [hk]
       ·rw [if_neg hk]; simp [hk])
      rw [w_succ (by simp only [TValue.fItems_mk] at hlen; omega), ih]
      cases hvk : vk l[i].fKey with
      | false => rfl
      | true =>
       simp only [if_true, Bool.true_and, TValue.fNext_mk, hsn]
       by_cases hm : l[i].fKey ∈ (l.take i).map (·.fKey)
       ·rw [if_pos hm, decide_eq_true hm]
        simp only [Bool.not_true, Bool.and_false, Bool.false_and]
        rfl
       ·rw [if_neg hm, decide_eq_false hm]
        cases hvo : l[i].fVal.vok with
        | false =>
         simp only [Bool.and_false, Bool.false_and, Bool.false_eq_true, if_false]
         repeat (first | rfl | split)
        | true =>
         simp only [if_true, Bool.and_true, Bool.not_false]
         cases ht : l[i].fKey.fText with
         | true => simp only [if_true, Bool.true_or, Bool.true_and]
         | false =>
          simp only [Bool.false_eq_true, if_false, Bool.false_or]
          by_cases hx : l[i].fKey.fNum < x
          ·rw [if_neg (by omega), decide_eq_true hx]; rfl
          ·rw [if_pos (by omega), decide_eq_false hx]; rfl
    exact go l.length 0 (by omega) (by omega) [] (fun k => by simp [mgd, mfind])
   have in_eq : ∀ a b c : Int, m92 a b c = some (decide (b ≤ a ∧ a ≤ c)) := fun a b c => by
    unfold m92
    by_cases h1 : b ≤ a
    ·rw [if_pos (by omega)]
     by_cases h2 : a ≤ c
     ·simp [h1, h2]
     ·simp [h2]
    ·rw [if_neg (by omega)]
     simp [h1]
   rw [m_i_wellFormed, vok_eq]
   simp only [TValue.fKind_mk, TValue.fNum_mk, TValue.fStr_mk, TValue.fNext_mk, TValue.fItems_mk, in_eq, sb]
   rw [loop]
   by_cases h4 : k = 4
   ·subst h4
    by_cases hs : s = [] <;> by_cases hq : q = 0 <;> by_cases hx : 0 ≤ x ∧ x ≤ 1000000001 <;> cases TEntry.vokL l x [] <;> simp [hs, hq, hx, sb, restO]
   ·by_cases h3 : k = 3
    ·subst h3
     by_cases hx : x = 0 <;> by_cases hq : q = 0 <;> cases l <;> simp [hx, hq, sb] <;> try rfl
    ·by_cases hs : s = []
     ·by_cases hx : x = 0
      ·cases l with
       | cons e r => simp [h3, h4, hs, hx, sb]
       | nil =>
        by_cases h0 : k = 0
        ·subst h0; simp [hs, hx, sb]
        ·by_cases h1 : k = 1
         ·subst h1
          by_cases q0 : q = 0
          ·subst q0; simp [hs, hx, sb]
          ·simp [hs, hx, sb, q0]
         ·by_cases h2 : k = 2
          ·subst h2; simp [hs, hx, sb]
          ·by_cases h6 : k = 6
           ·subst h6; simp [hs, hx, sb]
           ·by_cases h7 : k = 7
            ·subst h7; simp [hs, hx, sb]
            ·by_cases h8 : k = 8
             ·subst h8; simp [hs, hx, sb]
             ·simp [h0, h1, h2, h3, h4, h6, h7, h8, hs, hx, sb]
      ·simp [h3, h4, hs, hx, sb]
     ·simp [h3, h4, hs, sb]
end Go.Am
