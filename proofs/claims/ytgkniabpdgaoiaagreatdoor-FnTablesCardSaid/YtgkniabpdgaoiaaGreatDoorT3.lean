/- The plain law: the tables that the reference's check lets pass. -/
import Derived.Test.YtgkniabpdgaoiaaGreatDoorT2
set_option linter.unusedVariables false
set_option linter.unusedSimpArgs false
namespace Go.Am
open Go Go.RowKit Go.Proofs
theorem same_two (a : TTable) (l : List Int) (hl : a.fHeads.length = l.length) (hn : l.length ≤ 2000) : ∀ (f i : Nat), l.length ≤ i + f → i ≤ l.length →
  (a.fHeads.drop i = l.drop i → m_s_IsTable_L30 a l (i : Int) = some (.inl ())) ∧ (¬ a.fHeads.drop i = l.drop i → m_s_IsTable_L30 a l (i : Int) = some (.inr false))
 | f, i, hf, hi => by
  rw [m_s_IsTable_L30]
  by_cases hc : i < l.length
  ·obtain ⟨g, rfl⟩ : ∃ g, f = g + 1 := ⟨f - 1, by omega⟩
   have ih := same_two a l hl hn g (i + 1) (by omega) (by omega)
   rw [if_pos (by omega), idx_nat (by omega), idx_nat hc, sb, sb, w_succ (by omega)]
   rw [List.drop_eq_getElem_cons hc, List.drop_eq_getElem_cons (show i < a.fHeads.length by omega)]
   by_cases e : a.fHeads[i] = l[i]
   ·rw [if_pos e, e]
    exact ⟨fun h => ih.1 (List.cons.inj h).2, fun h => ih.2 (fun q => h (by rw [q]))⟩
   ·rw [if_neg e]
    exact ⟨fun h => absurd (List.cons.inj h).1 e, fun _ => rfl⟩
  ·rw [if_neg (by omega)]
   exact ⟨fun _ => rfl, fun h => absurd (by rw [List.drop_eq_nil_of_le (by omega), List.drop_eq_nil_of_le (by omega)]) h⟩
theorem fill3_go (a : TTable) (n : Nat) (hn : n ≤ 100000) (ha : a.fHeads.length = n) : ∀ (f k : Nat) (l : List Int), n ≤ k + f → k ≤ n → l.length = n → (∀ j, j < k → l[j]? = some (-1)) →
  m_s_IsTable_L2 a l (k : Int) = some (List.replicate n (-1))
 | f, k, l, hf, hk, hl, hj => by
  rw [m_s_IsTable_L2]
  by_cases hc : k < n
  ·obtain ⟨g, rfl⟩ : ∃ g, f = g + 1 := ⟨f - 1, by omega⟩
   rw [if_pos (by omega), idx_nat (by omega), sb, w_succ (by omega), Int.toNat_natCast]
   refine fill3_go a n hn ha g (k + 1) _ (by omega) (by omega) (by simpa using hl) (fun j h => ?_)
   rw [List.getElem?_set]
   by_cases q : k = j
   ·rw [if_pos q, if_pos (by omega)]
   ·rw [if_neg q]; exact hj j (by omega)
  ·rw [if_neg (by omega)]
   congr 1
   refine List.ext_getElem? fun j => ?_
   by_cases q : j < n
   ·rw [hj j (by omega), List.getElem?_replicate, if_pos q]
   ·rw [List.getElem?_eq_none (by omega), List.getElem?_eq_none (by simp; omega)]
theorem pw_of : ∀ n : Fin 1025, 8 ≤ n.val → bits .and .i64 (n.val : Int) (W64 ((n.val : Int) - 1)) = 0 → (n.val = 8 ∨ n.val = 16 ∨ n.val = 32 ∨ n.val = 64 ∨ n.val = 128 ∨ n.val = 256 ∨ n.val = 512 ∨ n.val = 1024) := by decide +kernel
theorem pw_and {n : Nat} (h : Pw n) : bits .and .i64 (n : Int) (W64 ((n : Int) - 1)) = 0 := by
 rcases h with h | h | h | h | h | h | h | h <;> subst h <;> decide +kernel
def H1 (t : TTable) : Prop := if t.fHashed = true then Pw t.fHeads.length ∧ t.fSlots.length ≤ t.fHeads.length else t.fHeads.length = 0 ∧ (t.fSlots.length : Int) ≤ t.fNext
structure VT (t : TTable) : Prop where
 nx : 0 ≤ t.fNext ∧ t.fNext ≤ 1000000001
 sl : t.fSlots.length ≤ 1024
 sz : H1 t
 cs : CS t 0
 hd : t.fHeads = hds t.fHeads.length t.fSlots
 ct : t.fCount = ((lv t.fSlots).length : Int)
theorem H1.hh {t : TTable} (h : H1 t) : if t.fHashed = true then 0 < t.fHeads.length ∧ t.fHeads.length ≤ 1024 else t.fHeads.length = 0 := by
 unfold H1 at h
 by_cases q : t.fHashed = true
 ·rw [if_pos q] at h ⊢
  have := h.1.bd
  omega
 ·rw [if_neg q] at h ⊢; exact h.1
theorem sist_tail {t : TTable} (hb : TB t) (h0 : 0 ≤ t.fNext ∧ t.fNext ≤ 1000000001) (h1 : t.fSlots.length ≤ 1024) (h2 : H1 t) (x : Option Bool)
  (hx : x = ((lmake 8 (t.fHeads.length : Int) (t.fHeads.length : Int) : Option (List Int)) >>= fun l23 => m_s_IsTable_L2 t l23 0 >>= fun l => m_s_IsTable_L24 t 0 l 0 >>= fun o => match o with
   | .inr r => some r
   | .inl (y, l) => m_s_IsTable_L30 t l 0 >>= fun o => match o with
    | .inr r => some r
    | .inl _ => some (y == t.fCount))) : (VT t → x = some true) ∧ (¬ VT t → x = some false) := by
 have hhl := hb.hl
 have em : (lmake 8 (t.fHeads.length : Int) (t.fHeads.length : Int) : Option (List Int)) = some (List.replicate t.fHeads.length default) := by
  unfold lmake
  rw [if_pos ⟨by omega, by omega, by omega, by omega⟩]; rfl
 have e1 := fill3_go t t.fHeads.length (by omega) rfl t.fHeads.length 0 (List.replicate t.fHeads.length default) (by omega) (by omega) (by simp) (fun j h => absurd h (by omega))
 have e2 := slots_two t hb h2.hh t.fSlots.length 0 (by omega) (by omega)
 have e3 := same_two t (hds t.fHeads.length t.fSlots) (by rw [hds_len]) (by rw [hds_len]; omega) t.fHeads.length 0 (by rw [hds_len]; omega) (by omega)
 rw [List.take_zero, hds_nil] at e2
 rw [show ((0 : Nat) : Int) = 0 from rfl] at e1 e3
 replace e2 : (CS t 0 → m_s_IsTable_L24 t 0 (List.replicate t.fHeads.length (-1)) 0 = some (.inl (((lv t.fSlots).length : Int), hds t.fHeads.length t.fSlots))) ∧ (¬ CS t 0 → m_s_IsTable_L24 t 0 (List.replicate t.fHeads.length (-1)) 0 = some (.inr false)) := e2
 rw [List.drop_zero, List.drop_zero] at e3
 rw [em, sb, e1, sb] at hx
 by_cases c1 : CS t 0
 case neg => rw [e2.2 c1, sb] at hx; exact ⟨fun h => absurd h.cs c1, fun _ => hx⟩
 rw [e2.1 c1, sb] at hx
 dsimp only at hx
 by_cases c2 : t.fHeads = hds t.fHeads.length t.fSlots
 case neg => rw [e3.2 c2, sb] at hx; exact ⟨fun h => absurd h.hd c2, fun _ => hx⟩
 rw [e3.1 c2, sb] at hx
 dsimp only at hx
 by_cases c3 : t.fCount = ((lv t.fSlots).length : Int)
 ·rw [c3] at hx
  exact ⟨fun _ => by rw [hx]; simp, fun h => absurd ⟨h0, h1, h2, c1, c2, c3⟩ h⟩
 ·exact ⟨fun h => absurd h.ct c3, fun _ => by rw [hx, beq_eq_false_iff_ne.2 (fun q => c3 q.symm)]⟩
theorem sist {t : TTable} (hb : TB t) : (VT t → m_s_IsTable t = some true) ∧ (¬ VT t → m_s_IsTable t = some false) := by
 have hsl := hb.sl
 have hhl := hb.hl
 unfold m_s_IsTable
 by_cases q1 : 0 ≤ t.fNext ∧ t.fNext ≤ 1000000001
 case neg => rw [m53_eq, sb, decide_eq_false q1]; exact ⟨fun h => absurd h.nx q1, fun _ => rfl⟩
 rw [m53_eq, sb, decide_eq_true q1]
 simp only [if_true]
 by_cases q2 : t.fSlots.length ≤ 1024
 case neg => rw [if_pos (by omega)]; exact ⟨fun h => absurd h.sl q2, fun _ => rfl⟩
 rw [if_neg (by omega)]
 by_cases q3 : t.fHashed = true
 ·simp only [if_pos q3, m53_eq, sb]
  by_cases q4 : (8 : Int) ≤ (t.fHeads.length : Int) ∧ (t.fHeads.length : Int) ≤ 1024
  case neg =>
   rw [decide_eq_false q4]
   exact ⟨fun h => absurd (by have h := h.sz; unfold H1 at h; rw [if_pos q3] at h; have := h.1.bd; omega) q4, fun _ => rfl⟩
  rw [decide_eq_true q4]
  simp only [if_true]
  by_cases q5 : bits .and .i64 (t.fHeads.length : Int) (W64 ((t.fHeads.length : Int) - 1)) = 0
  case neg =>
   rw [if_neg q5]
   exact ⟨fun h => absurd (by have h := h.sz; unfold H1 at h; rw [if_pos q3] at h; exact pw_and h.1) q5, fun _ => rfl⟩
  rw [if_pos q5]
  by_cases q6 : t.fSlots.length ≤ t.fHeads.length
  case neg =>
   rw [if_pos (by omega)]
   exact ⟨fun h => absurd (by have h := h.sz; unfold H1 at h; rw [if_pos q3] at h; exact h.2) q6, fun _ => rfl⟩
  rw [if_neg (by omega)]
  have hp : Pw t.fHeads.length := pw_of ⟨t.fHeads.length, by omega⟩ (by show 8 ≤ t.fHeads.length; omega) q5
  exact sist_tail hb q1 q2 (by unfold H1; rw [if_pos q3]; exact ⟨hp, q6⟩) _ rfl
 ·simp only [if_neg q3]
  by_cases q4 : t.fHeads.length = 0
  case neg =>
   rw [if_pos (by omega)]
   exact ⟨fun h => absurd (by have h := h.sz; unfold H1 at h; rw [if_neg q3] at h; exact h.1) q4, fun _ => rfl⟩
  rw [if_neg (by omega)]
  by_cases q5 : (t.fSlots.length : Int) ≤ t.fNext
  case neg =>
   rw [if_pos (by omega)]
   exact ⟨fun h => absurd (by have h := h.sz; unfold H1 at h; rw [if_neg q3] at h; exact h.2) q5, fun _ => rfl⟩
  rw [if_neg (by omega)]
  exact sist_tail hb q1 q2 (by unfold H1; rw [if_neg q3]; exact ⟨q4, q5⟩) _ rfl
end Go.Am
