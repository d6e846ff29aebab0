/- The plain law, ninth part: functions that agree, and walks. -/
import Derived.Test.YtnehfdofoemnfaaP8
import Derived.Test.YtnehfdofoemnfaaA6
set_option linter.unusedVariables false
set_option linter.unusedSimpArgs false
namespace Go.Am
open Go Go.RowKit Go.Proofs
theorem ext_iff {α : Type} {l m : List α} {g : List α → Nat → α} (hg : ∀ (l : List α) i (h : i < l.length), g l i = l[i]) (hl : l.length = m.length) : (∀ i, i < l.length → g l i = g m i) ↔ l = m := by
 constructor
 ·intro h
  refine List.ext_getElem hl fun i h1 h2 => ?_
  rw [← hg l i h1, ← hg m i h2]
  exact h i h1
 ·rintro rfl i _; rfl
theorem gP_at (l : List TParam) (i : Nat) (h : i < l.length) : gP l i = l[i] := by
 rw [gP, List.getD_eq_getElem?_getD, List.getElem?_eq_getElem h]; rfl
theorem gS_at (l : List Str) (i : Nat) (h : i < l.length) : gS l i = l[i] := by
 rw [gS, List.getD_eq_getElem?_getD, List.getElem?_eq_getElem h]; rfl
theorem allN_eq {α : Type} [DecidableEq α] {l m : List α} {g : List α → Nat → α} (hg : ∀ (l : List α) i (h : i < l.length), g l i = l[i]) (hl : l.length = m.length) : allN (fun k => decide (g l k = g m k)) 0 l.length = decide (l = m) := by
 rw [Bool.eq_iff_iff, allN_iff, decide_eq_true_iff, ← ext_iff hg hl]
 constructor
 ·intro h i hi; simpa using h i (Nat.zero_le _) hi
 ·intro h i _ hi; simpa using h i hi
theorem eqP (a b : List TParam) (hn : a.length ≤ 2000000) : m_EqualP a b = some (decide (a = b)) := by
 unfold m_EqualP
 by_cases hl : a.length = b.length
 ·rw [if_pos (by omega), ← allN_eq gP_at hl]
  have : m_EqualP_L2 a b 0 = some (if allN (fun k => decide (gP a k = gP b k)) 0 a.length = true then .inl () else .inr false) := by
   refine loop_all0 (L := m_EqualP_L2 a b) _ _ (fun k hk => ?_) (by rw [m_EqualP_L2, if_neg (by omega)])
   rw [m_EqualP_L2, if_pos (by omega), idx_gP hk, sb, idx_gP (by omega), sb, w_succ (by omega)]
   exact ⟨fun h => by rw [if_pos (by simpa using h)], fun h => by rw [if_neg (by simpa using h)]⟩
  rw [this, sb]
  cases allN (fun k => decide (gP a k = gP b k)) 0 a.length <;> rfl
 ·rw [if_neg (by omega), decide_eq_false (fun h => hl (by rw [h]))]
theorem eqS (a b : List Str) (hn : a.length ≤ 2000000) : m_EqualS a b = some (decide (a = b)) := by
 unfold m_EqualS
 by_cases hl : a.length = b.length
 ·rw [if_pos (by omega), ← allN_eq gS_at hl]
  have : m_EqualS_L2 a b 0 = some (if allN (fun k => decide (gS a k = gS b k)) 0 a.length = true then .inl () else .inr false) := by
   refine loop_all0 (L := m_EqualS_L2 a b) _ _ (fun k hk => ?_) (by rw [m_EqualS_L2, if_neg (by omega)])
   rw [m_EqualS_L2, if_pos (by omega), idx_gS hk, sb, idx_gS (by omega), sb, w_succ (by omega)]
   exact ⟨fun h => by rw [if_pos (by simpa using h)], fun h => by rw [if_neg (by simpa using h)]⟩
  rw [this, sb]
  cases allN (fun k => decide (gS a k = gS b k)) 0 a.length <;> rfl
 ·rw [if_neg (by omega), decide_eq_false (fun h => hl (by rw [h]))]
structure Fits (a : TFunc) : Prop where
 code : a.fCode.length ≤ 2000000
 slots : a.fSlots.length ≤ 2000000
 params : a.fParams.length ≤ 2000000
 uses : a.fUses.length ≤ 2000000
 name : a.fName.length ≤ 2000000
theorem agree_eq (a b : TFunc) (ha : Fits a) : ∃ v, m_i_agree a b = some v ∧ m_s_l30Same a b = some v := by
 unfold m_i_agree m_s_l30Same
 by_cases h1 : a.fName = b.fName
 case neg => rw [if_neg h1, if_neg h1]; exact ⟨_, rfl, rfl⟩
 by_cases h2 : a.fGen = b.fGen
 case neg => rw [if_pos h1, if_pos h1, if_neg h2, if_neg h2]; exact ⟨_, rfl, rfl⟩
 rw [if_pos h1, if_pos h1, if_pos h2, if_pos h2, eqP _ _ ha.params, eqP _ _ ha.uses, eqS _ _ ha.slots, sb, sb, sb]
 by_cases l1 : a.fParams.length = b.fParams.length
 case neg =>
  rw [if_neg (show ¬ (a.fParams.length : Int) = (b.fParams.length : Int) by omega), decide_eq_false (show ¬ a.fParams = b.fParams from fun h => l1 (by rw [h]))]
  exact ⟨_, rfl, rfl⟩
 by_cases l2 : a.fUses.length = b.fUses.length
 case neg =>
  rw [if_pos (show (a.fParams.length : Int) = (b.fParams.length : Int) by omega), if_neg (show ¬ (a.fUses.length : Int) = (b.fUses.length : Int) by omega), decide_eq_false (show ¬ a.fUses = b.fUses from fun h => l2 (by rw [h]))]
  cases decide (a.fParams = b.fParams) <;> exact ⟨_, rfl, rfl⟩
 by_cases l3 : a.fSlots.length = b.fSlots.length
 case neg =>
  rw [if_pos (show (a.fParams.length : Int) = (b.fParams.length : Int) by omega), if_pos (show (a.fUses.length : Int) = (b.fUses.length : Int) by omega), if_neg (show ¬ (a.fSlots.length : Int) = (b.fSlots.length : Int) by omega), decide_eq_false (show ¬ a.fSlots = b.fSlots from fun h => l3 (by rw [h]))]
  cases decide (a.fParams = b.fParams) <;> cases decide (a.fUses = b.fUses) <;> exact ⟨_, rfl, rfl⟩
 rw [if_pos (show (a.fParams.length : Int) = (b.fParams.length : Int) by omega), if_pos (show (a.fUses.length : Int) = (b.fUses.length : Int) by omega), if_pos (show (a.fSlots.length : Int) = (b.fSlots.length : Int) by omega)]
 have p2 := ha.params
 have p3 := ha.uses
 have p4 := ha.slots
 have q1 : m_s_l30Same_L2 a b 0 = some (if decide (a.fParams = b.fParams) = true then .inl () else .inr false) := by
  rw [← allN_eq gP_at l1]
  refine loop_all0 (L := m_s_l30Same_L2 a b) _ _ (fun k hk => ?_) (by rw [m_s_l30Same_L2, if_neg (by omega)])
  rw [m_s_l30Same_L2, if_pos (by omega), idx_gP hk, sb, idx_gP (by omega), sb, w_succ (by omega)]
  exact ⟨fun h => by rw [if_pos (by simpa using h)], fun h => by rw [if_neg (by simpa using h)]⟩
 have q2 : m_s_l30Same_L4 a b 0 = some (if decide (a.fUses = b.fUses) = true then .inl () else .inr false) := by
  rw [← allN_eq gP_at l2]
  refine loop_all0 (L := m_s_l30Same_L4 a b) _ _ (fun k hk => ?_) (by rw [m_s_l30Same_L4, if_neg (by omega)])
  rw [m_s_l30Same_L4, if_pos (by omega), idx_gP hk, sb, idx_gP (by omega), sb, w_succ (by omega)]
  exact ⟨fun h => by rw [if_pos (by simpa using h)], fun h => by rw [if_neg (by simpa using h)]⟩
 have q3 : m_s_l30Same_L6 a b 0 = some (if decide (a.fSlots = b.fSlots) = true then .inl () else .inr false) := by
  rw [← allN_eq gS_at l3]
  refine loop_all0 (L := m_s_l30Same_L6 a b) _ _ (fun k hk => ?_) (by rw [m_s_l30Same_L6, if_neg (by omega)])
  rw [m_s_l30Same_L6, if_pos (by omega), idx_gS hk, sb, idx_gS (by omega), sb, w_succ (by omega)]
  exact ⟨fun h => by rw [if_pos (by simpa using h)], fun h => by rw [if_neg (by simpa using h)]⟩
 rw [q1, q2, q3]
 cases decide (a.fParams = b.fParams) <;> cases decide (a.fUses = b.fUses) <;> cases decide (a.fSlots = b.fSlots) <;> exact ⟨_, rfl, rfl⟩
def nxt (code : List TIns) (at_ : Nat) : Option Nat :=
 if (gC code at_).fOp = 27 then some (gC code at_).fA.toNat else if (gC code at_).fOp = 1 ∧ at_ + 1 < code.length then some (at_ + 1) else none
def wk (code : List TIns) : Nat → Nat → List Int
 | 0, _ => []
 | f + 1, a => match nxt code a with
  | none => []
  | some b => (b : Int) :: wk code f b
def Jumps (code : List TIns) : Prop := ∀ i, i < code.length → (gC code i).fOp = 27 → 0 ≤ (gC code i).fA ∧ (gC code i).fA < code.length
theorem nxt_lt {code : List TIns} (hj : Jumps code) {a b : Nat} (ha : a < code.length) (h : nxt code a = some b) : b < code.length := by
 unfold nxt at h
 by_cases h1 : (gC code a).fOp = 27
 ·rw [if_pos h1] at h
  injection h with h
  have := hj a ha h1
  omega
 ·rw [if_neg h1] at h
  by_cases h2 : (gC code a).fOp = 1 ∧ a + 1 < code.length
  ·rw [if_pos h2] at h
   injection h with h
   omega
  ·rw [if_neg h2] at h; cases h
theorem iWalk_go {code : List TIns} (hj : Jumps code) (hn : code.length ≤ 2000000) : ∀ (f y a : Nat) (l : List Int), y + f = code.length → a < code.length → l.length ≤ y + 1 →
  ∃ o, m_i_walkFrom_L2 code (a : Int) l (y : Int) = some o ∧ (o = .inl (l ++ wk code f a) ∨ o = .inr (l ++ wk code f a))
 | 0, y, a, l, hy, ha, hl => by
  rw [m_i_walkFrom_L2, if_neg (by omega)]
  exact ⟨_, rfl, .inl (by rw [wk, List.append_nil])⟩
 | f + 1, y, a, l, hy, ha, hl => by
  rw [m_i_walkFrom_L2, if_pos (by omega), idx_gC ha, sb, w_succ (by omega), wk]
  by_cases h1 : (gC code a).fOp = 27
  ·have hb := hj a ha h1
   have e : nxt code a = some (gC code a).fA.toNat := by unfold nxt; rw [if_pos h1]
   have ea : (gC code a).fA = (((gC code a).fA.toNat : Nat) : Int) := by omega
   rw [if_pos h1, sb, lapp_eq (by simp; omega), sb, e]
   dsimp only
   obtain ⟨o, e2, h⟩ := iWalk_go hj hn f (y + 1) (gC code a).fA.toNat (l ++ [(gC code a).fA]) (by omega) (by omega) (by simp; omega)
   rw [← ea] at e2
   refine ⟨o, e2, ?_⟩
   rw [List.append_assoc] at h
   rw [← ea]
   exact h
  ·rw [if_neg h1, sb]
   by_cases h2 : (gC code a).fOp = 1
   ·rw [if_pos h2, w_succ (by omega)]
    by_cases h3 : a + 1 < code.length
    ·have e : nxt code a = some (a + 1) := by unfold nxt; rw [if_neg h1, if_pos ⟨h2, h3⟩]
     rw [if_pos (by omega), lapp_eq (by simp; omega), sb, e]
     dsimp only
     obtain ⟨o, e2, h⟩ := iWalk_go hj hn f (y + 1) (a + 1) (l ++ [((a + 1 : Nat) : Int)]) (by omega) (by omega) (by simp; omega)
     refine ⟨o, e2, ?_⟩
     rw [List.append_assoc] at h
     exact h
    ·have e : nxt code a = none := by unfold nxt; rw [if_neg h1, if_neg (fun q => h3 q.2)]
     rw [if_neg (by omega), e]
     exact ⟨_, rfl, .inr (by simp)⟩
   ·have e : nxt code a = none := by unfold nxt; rw [if_neg h1, if_neg (fun q => h2 q.1)]
    rw [if_neg h2, e]
    exact ⟨_, rfl, .inr (by simp)⟩
theorem iWalk {code : List TIns} (hj : Jumps code) (hn : code.length ≤ 2000000) {a : Nat} (ha : a < code.length) : m_i_walkFrom code (a : Int) = some ((a : Int) :: wk code code.length a) := by
 unfold m_i_walkFrom
 obtain ⟨o, e, h⟩ := iWalk_go hj hn code.length 0 a [(a : Int)] (by omega) ha (by simp)
 rw [show ((0 : Nat) : Int) = 0 from rfl] at e
 rw [e, sb]
 rcases h with rfl | rfl <;> rfl
theorem sWalk_go {code : List TIns} (hj : Jumps code) (hn : code.length ≤ 2000000) (to : Int) : ∀ (f y a : Nat), y + f = code.length → a < code.length →
  ∃ r, (m_s_l31Walk_L2 code to (a : Int) (y : Int) >>= fun o2 => match o2 with
   | .inr r => some r
   | .inl y1 => some (y1, false)) = some (r, decide (to ∈ (a : Int) :: wk code f a)) ∧ (to ∉ (a : Int) :: wk code f a → some r = ((a : Int) :: wk code f a).getLast?)
 | 0, y, a, hy, ha => by
  have hy : y = code.length := by omega
  subst hy
  rw [m_s_l31Walk_L2, if_pos (Int.le_refl _), wk]
  by_cases h : (a : Int) = to
  ·rw [if_pos h, sb]
   have hm : to ∈ [(a : Int)] := by rw [h]; simp
   exact ⟨(a : Int), by rw [decide_eq_true hm], fun q => absurd hm q⟩
  ·have hm : to ∉ [(a : Int)] := fun q => h (List.mem_singleton.1 q).symm
   rw [if_neg h, if_pos rfl, w_succ (by omega), m_s_l31Walk_L2, if_neg (by omega), sb]
   exact ⟨(a : Int), by rw [decide_eq_false hm], fun _ => rfl⟩
 | f + 1, y, a, hy, ha => by
  rw [m_s_l31Walk_L2, if_pos (by omega), wk]
  by_cases h : (a : Int) = to
  ·rw [if_pos h, sb]
   have hm : ∀ r : List Int, to ∈ (a : Int) :: r := fun r => by rw [h]; simp
   exact ⟨(a : Int), by rw [decide_eq_true (hm _)], fun q => absurd (hm _) q⟩
  have h' : ¬ to = (a : Int) := fun q => h q.symm
  rw [if_neg h, if_neg (by omega), idx_gC ha, sb, w_succ (by omega), w_succ (by omega)]
  have more : ∀ b : Nat, nxt code a = some b → ∃ r, (m_s_l31Walk_L2 code to (b : Int) ((y + 1 : Nat) : Int) >>= fun o2 => match o2 with
   | .inr r => some r
   | .inl y1 => some (y1, false)) = some (r, decide (to ∈ (a : Int) :: (b : Int) :: wk code f b)) ∧ (to ∉ (a : Int) :: (b : Int) :: wk code f b → some r = ((a : Int) :: (b : Int) :: wk code f b).getLast?) := fun b hb => by
   obtain ⟨r, e, h2⟩ := sWalk_go hj hn to f (y + 1) b (by omega) (nxt_lt hj ha hb)
   refine ⟨r, ?_, fun q => ?_⟩
   ·rw [e]
    congr 2
    rw [decide_eq_decide, List.mem_cons (a := to) (b := (a : Int))]
    exact ⟨.inr, fun q => q.resolve_left h'⟩
   ·rw [List.getLast?_cons_cons]
    exact h2 (fun z => q (List.mem_cons_of_mem _ z))
  have stop : nxt code a = none → ∃ r, ((some (.inr ((a : Int), false)) : Option (Int ⊕ (Int × Bool))) >>= fun o2 => match o2 with
   | .inr r => some r
   | .inl y1 => some (y1, false)) = some (r, decide (to ∈ [(a : Int)])) ∧ (to ∉ [(a : Int)] → some r = [(a : Int)].getLast?) := fun _ =>
   ⟨(a : Int), by simp [h', sb], fun _ => rfl⟩
  by_cases h1 : (gC code a).fOp = 27
  ·have hb := hj a ha h1
   have e : nxt code a = some (gC code a).fA.toNat := by unfold nxt; rw [if_pos h1]
   obtain ⟨b, ea⟩ : ∃ b : Nat, (gC code a).fA = (b : Int) := ⟨(gC code a).fA.toNat, by omega⟩
   rw [ea, Int.toNat_natCast] at e
   rw [if_pos h1, sb, ea, e]
   exact more _ e
  ·rw [if_neg h1, sb]
   by_cases h2 : (gC code a).fOp = 1
   ·rw [if_pos h2]
    by_cases h3 : a + 1 < code.length
    ·have e : nxt code a = some (a + 1) := by unfold nxt; rw [if_neg h1, if_pos ⟨h2, h3⟩]
     rw [if_pos (by omega), e]
     exact more _ e
    ·have e : nxt code a = none := by unfold nxt; rw [if_neg h1, if_neg (fun q => h3 q.2)]
     rw [if_neg (by omega), e]
     exact stop e
   ·have e : nxt code a = none := by unfold nxt; rw [if_neg h1, if_neg (fun q => h2 q.1)]
    rw [if_neg h2, e]
    exact stop e
theorem sWalk {code : List TIns} (hj : Jumps code) (hn : code.length ≤ 2000000) (to : Int) {a : Nat} (ha : a < code.length) :
  ∃ r, m_s_l31Walk code (a : Int) to = some (r, decide (to ∈ (a : Int) :: wk code code.length a)) ∧ (to ∉ (a : Int) :: wk code code.length a → some r = ((a : Int) :: wk code code.length a).getLast?) := by
 unfold m_s_l31Walk
 exact sWalk_go hj hn to code.length 0 a (by omega) ha
theorem has_go (l : List Int) (x : Int) (hn : l.length ≤ 3000000) : ∀ (f k : Nat), l.length ≤ k + f → k ≤ l.length → ∃ o, m_IndexN_L2 l x (k : Int) = some o ∧
  ((∃ j : Nat, o = .inr (j : Int)) ∧ x ∈ l.drop k ∨ o = .inl () ∧ x ∉ l.drop k)
 | f, k, hf, hk => by
  rw [m_IndexN_L2]
  by_cases hc : k < l.length
  ·rw [if_pos (by omega), idx_nat hc, sb, List.drop_eq_getElem_cons hc]
   by_cases hx : x = l[k]
   ·rw [if_pos hx]
    exact ⟨_, rfl, .inl ⟨⟨k, rfl⟩, by rw [← hx]; simp⟩⟩
   ·obtain ⟨g, rfl⟩ : ∃ g, f = g + 1 := ⟨f - 1, by omega⟩
    rw [if_neg hx, w_succ (by omega)]
    obtain ⟨o, e, h⟩ := has_go l x hn g (k + 1) (by omega) (by omega)
    refine ⟨o, e, ?_⟩
    rcases h with ⟨h1, h2⟩ | ⟨h1, h2⟩
    ·exact .inl ⟨h1, List.mem_cons_of_mem _ h2⟩
    ·exact .inr ⟨h1, fun q => (List.mem_cons.1 q).elim hx h2⟩
  ·rw [if_neg (by omega), List.drop_eq_nil_of_le (by omega)]
   exact ⟨_, rfl, .inr ⟨rfl, by simp⟩⟩
theorem has_eq (l : List Int) (x : Int) (hn : l.length ≤ 3000000) : m_ContainsN l x = some (decide (x ∈ l)) := by
 unfold m_ContainsN m_IndexN
 obtain ⟨o, e, h⟩ := has_go l x hn l.length 0 (by omega) (by omega)
 rw [show ((0 : Nat) : Int) = 0 from rfl] at e
 rw [e, sb]
 rw [List.drop_zero] at h
 rcases h with ⟨⟨j, rfl⟩, h⟩ | ⟨rfl, h⟩
 ·rw [decide_eq_true h]
  show (some (decide ((j : Int) ≥ 0)) : Option Bool) = _
  rw [decide_eq_true (by omega)]
 ·rw [decide_eq_false h]; rfl
theorem wk_len (code : List TIns) : ∀ (f a : Nat), (wk code f a).length ≤ f
 | 0, a => by rw [wk]; simp
 | f + 1, a => by
  rw [wk]
  cases nxt code a with
  | none => simp
  | some b => simp only [List.length_cons]; have := wk_len code f b; omega
end Go.Am
