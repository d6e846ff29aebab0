/- The plain law, third part: arrays. -/
import Derived.Test.YtcipcpjmialcoaaDoorW2
set_option linter.unusedVariables false
set_option linter.unusedSimpArgs false
namespace Go.Am
open Go Go.RowKit Go.Proofs
theorem set_last {α : Type} (a b : α) : ∀ l : List α, (l ++ [a]).set l.length b = l ++ [b]
 | [] => rfl
 | c :: l => by simp [set_last a b l]
theorem m93_eq (a b : Int) : m93 a b = some (if b > a then b else a) := by unfold m93; split <;> rfl
theorem m91_eq (a b : Int) : m91 a b = some (if b > a then b else a) := by unfold m91; split <;> rfl
def putL (l : List TEntry) (k : TKey) (x : TValue) (r : Int) : List TEntry := if r ≥ 0 then l.set r.toNat (.mk k x) else l ++ [.mk k x]
def putN (n : Int) (k : TKey) (r : Int) : Int := if r ≥ 0 then n else if k.fText = true then n else if W64 (k.fNum + 1) > n then W64 (k.fNum + 1) else n
def KeysOk (v : TValue) : Prop :=
 ∀ i, ∀ hi : i < v.fItems.length, (v.fItems[i].fKey.fText = false → v.fItems[i].fKey.fNum < v.fNext) ∧ ∀ j, ∀ hj : j < i, (v.fItems[j]'(by omega)).fKey ≠ v.fItems[i].fKey
theorem at_first {l : List TEntry} {k : TKey} {i : Nat} (h : At l k (i : Int)) (hi : i < l.length) : ∀ j, ∀ hj : j < i, (l[j]'(by omega)).fKey ≠ k := by
 rcases h with ⟨h, _⟩ | ⟨j, hj, e, h1, h2⟩
 ·omega
 ·obtain rfl : i = j := by omega
  exact h2
theorem L4_good {v : TValue} (hk : v.fKind = 4) (hl : v.fItems.length ≤ 2000000) : ∀ m i : Nat, i ≤ v.fItems.length → v.fItems.length - i = m → m52_L4 v (i : Int) = some (.inl ()) →
  ∀ q, ∀ hq : q < v.fItems.length, i ≤ q → (v.fItems[q].fKey.fText = false → v.fItems[q].fKey.fNum < v.fNext) ∧ ∀ j, ∀ hj : j < q, (v.fItems[j]'(by omega)).fKey ≠ v.fItems[q].fKey := by
 intro m
 induction m with
 | zero => intro i h1 h2 h q hq hiq; omega
 | succ m ihm =>
  intro i h1 h2 h q hq hiq
  have hlt : i < v.fItems.length := by omega
  obtain ⟨r9, e9, a9⟩ := m90_at v v.fItems[i].fKey hk (by omega)
  rw [m52_L4, if_pos (by omega), idx_nat hlt, sb, m23_eq, sb, e9, sb, sb] at h
  have fin : ∀ hh : r9 = (i : Int), (m52 v.fItems[i].fVal >>= fun v68 => if v68 = true then m52_L4 v (W64 ((i : Int) + 1)) else some (.inr (.inr false))) = some (.inl ()) →
    (v.fItems[i].fKey.fText = false → v.fItems[i].fKey.fNum < v.fNext) →
    (v.fItems[q].fKey.fText = false → v.fItems[q].fKey.fNum < v.fNext) ∧ ∀ j, ∀ hj : j < q, (v.fItems[j]'(by omega)).fKey ≠ v.fItems[q].fKey := by
   intro hh hb hn
   obtain ⟨b, _, hb⟩ := bind_some hb
   split at hb
   ·rw [w_succ (by omega)] at hb
    rcases Nat.lt_or_ge i q with h4 | h4
    ·exact ihm (i + 1) (by omega) (by omega) hb q hq (by omega)
    ·obtain rfl : q = i := by omega
     exact ⟨hn, at_first (hh ▸ a9) hlt⟩
   ·cases hb
  split at h
  ·split at h
   ·rename_i ht
    split at h
    ·rename_i hh; exact fin hh h (fun hf => absurd ht (by rw [hf]; decide))
    ·cases h
   ·split at h
    ·cases h
    ·rename_i hn
     split at h
     ·rename_i hh; exact fin hh h (fun _ => by omega)
     ·cases h
  ·cases h
theorem L4_inr {v : TValue} (hk : v.fKind = 4) (hl : v.fItems.length ≤ 2000000) : ∀ m i : Nat, i ≤ v.fItems.length → v.fItems.length - i = m → ∀ r, m52_L4 v (i : Int) = some (.inr r) → r = .inr false := by
 intro m
 induction m with
 | zero =>
  intro i h1 h2 r h
  rw [m52_L4, if_neg (by omega)] at h
  cases h
 | succ m ihm =>
  intro i h1 h2 r h
  have hlt : i < v.fItems.length := by omega
  obtain ⟨r9, e9, a9⟩ := m90_at v v.fItems[i].fKey hk (by omega)
  rw [m52_L4, if_pos (by omega), idx_nat hlt, sb, m23_eq, sb, e9, sb, sb] at h
  have fin : (m52 v.fItems[i].fVal >>= fun v68 => if v68 = true then m52_L4 v (W64 ((i : Int) + 1)) else some (.inr (.inr false))) = some (.inr r) → r = .inr false := by
   intro hb
   obtain ⟨b, _, hb⟩ := bind_some hb
   split at hb
   ·rw [w_succ (by omega)] at hb
    exact ihm (i + 1) (by omega) (by omega) r hb
   ·cases hb; rfl
  split at h
  ·split at h
   ·split at h
    ·exact fin h
    ·cases h; rfl
   ·split at h
    ·cases h; rfl
    ·split at h
     ·exact fin h
     ·cases h; rfl
  ·cases h; rfl
theorem m52_good {v : TValue} (h : m52 v = some true) (hk : v.fKind = 4) (hl : v.fItems.length ≤ 2000000) : 0 ≤ v.fNext ∧ v.fNext ≤ 1000000001 ∧ KeysOk v := by
 rw [m52] at h
 rw [hk] at h
 simp only [m53_eq, sb, if_true, Int.reduceEq, if_false, Int.reduceBEq, Bool.false_eq_true, reduceCtorEq] at h
 obtain ⟨o1, h1, h⟩ := bind_some h
 split at h1
 ·obtain rfl := Option.some.inj h1
  obtain ⟨o2, h2, h⟩ := bind_some h
  split at h2
  ·split at h2
   ·rename_i hn
    obtain ⟨o3, h3, h2⟩ := bind_some h2
    cases o3 with
    | inr r =>
     have := L4_inr hk hl v.fItems.length 0 (by omega) (by omega) r h3
     subst this
     obtain rfl := Option.some.inj h2
     cases h
    | inl u =>
     have hn := of_decide_eq_true hn
     exact ⟨hn.1, hn.2, fun i hi => L4_good hk hl v.fItems.length 0 (by omega) (by omega) h3 i hi (by omega)⟩
   ·obtain rfl := Option.some.inj h2; cases h
  ·obtain rfl := Option.some.inj h2; cases h
 ·obtain rfl := Option.some.inj h1; cases h
end Go.Am
