/- The plain law, tenth part: both accept the same shorter jumps. -/
import Derived.Test.YtnehfdofoemnfaaP9
set_option linter.unusedVariables false
set_option linter.unusedSimpArgs false
namespace Go.Am
open Go Go.RowKit Go.Proofs
theorem tgt27 : tgt 27 = true := rfl
theorem jumps_of {code : List TIns} (hA : ∀ i (hi : i < code.length), tgt (code[i]).fOp = true → 0 ≤ (code[i]).fA ∧ (code[i]).fA < code.length) : Jumps code := fun i hi h => by
 rw [gC_at hi] at h ⊢
 exact hA i hi (by rw [h]; rfl)
def thrC (old new : List TIns) (k : Nat) : Bool :=
 decide ((gC new k).fOp = (gC old k).fOp) && (if tgt (gC old k).fOp = true then decide ((gC new k).fA ∈ (gC old k).fA :: wk old old.length (gC old k).fA.toNat) && decide ((TIns.mk (gC new k).fOp (gC old k).fA (gC new k).fB (gC new k).fS (gC new k).fT) = gC old k)
  else decide (gC new k = gC old k))
theorem iThr (a b : TFunc) (ha : Fits a) (hl : a.fCode.length = b.fCode.length) (hA : ∀ i (hi : i < a.fCode.length), tgt (a.fCode[i]).fOp = true → 0 ≤ (a.fCode[i]).fA ∧ (a.fCode[i]).fA < a.fCode.length) :
  m_i_CheckThread_L2 a b 0 = some (if allN (thrC a.fCode b.fCode) 0 a.fCode.length = true then .inl () else .inr false) := by
 have hc := ha.code
 refine loop_all0 (L := m_i_CheckThread_L2 a b) _ _ (fun k hk => ?_) (by rw [m_i_CheckThread_L2, if_neg (by omega)])
 have key : m_i_CheckThread_L2 a b (k : Int) = if thrC a.fCode b.fCode k = true then m_i_CheckThread_L2 a b ((k + 1 : Nat) : Int) else some (.inr false) := by
  rw [m_i_CheckThread_L2, if_pos (by omega), idx_gC hk, sb, idx_gC (by omega), sb, iTgt, sb, w_succ (by omega)]
  unfold thrC
  generalize hx : gC a.fCode k = x
  generalize hy : gC b.fCode k = y
  have plain : y.fOp = x.fOp → (if x = y then m_i_CheckThread_L2 a b ((k + 1 : Nat) : Int) else some (.inr false)) = if decide (y = x) = true then m_i_CheckThread_L2 a b ((k + 1 : Nat) : Int) else some (.inr false) := fun _ => by
   by_cases h : x = y
   ·rw [if_pos h, if_pos (by simp [h])]
   ·rw [if_neg h, if_neg (by rw [decide_eq_false (fun q : y = x => h q.symm)]; simp)]
  have no : ¬ y.fOp = x.fOp → ¬ x = y := fun h q => h (by rw [q])
  by_cases ho : y.fOp = x.fOp
  ·rw [decide_eq_true ho, Bool.true_and]
   cases ht : tgt x.fOp
   ·rw [if_neg (by simp), plain ho, if_neg (show ¬ (false = true) by simp)]
   ·have hT := hA k hk (by rw [← gC_at hk, hx]; exact ht)
    rw [← gC_at hk, hx] at hT
    obtain ⟨n, hn⟩ : ∃ n : Nat, x.fA = (n : Int) := ⟨x.fA.toNat, by omega⟩
    have hj := jumps_of hA
    rw [if_pos rfl, if_pos rfl, if_pos ho]
    have hw := iWalk hj hc (a := n) (by omega)
    have hL : ((n : Int) :: wk a.fCode a.fCode.length n).length ≤ 3000000 := by have := wk_len a.fCode a.fCode.length n; simp only [List.length_cons]; omega
    rw [hn, hw, sb, has_eq _ _ hL, sb, Int.toNat_natCast]
    by_cases hm : y.fA ∈ (n : Int) :: wk a.fCode a.fCode.length n
    ·rw [if_pos (by simpa using hm), decide_eq_true hm, Bool.true_and]
     by_cases he : x = TIns.mk y.fOp (n : Int) y.fB y.fS y.fT
     ·rw [if_pos he, if_pos (by rw [decide_eq_true he.symm])]
     ·rw [if_neg he, if_neg (by rw [decide_eq_false (fun q => he q.symm)]; simp)]
    ·rw [if_neg (by simpa using hm), decide_eq_false hm, Bool.false_and]
     have : ¬ x = y := fun q => hm (by rw [← q, hn]; simp)
     rw [if_neg this]; rfl
  ·rw [decide_eq_false ho, Bool.false_and]
   cases ht : tgt x.fOp
   ·rw [if_neg (by simp), if_neg (no ho)]; rfl
   ·rw [if_pos rfl, if_neg ho, if_neg (no ho)]; rfl
 exact ⟨fun h => by rw [key, if_pos h], fun h => by rw [key, if_neg (by rw [h]; simp)]⟩
theorem sThr (a b : TFunc) (ha : Fits a) (hl : a.fCode.length = b.fCode.length) (hA : ∀ i (hi : i < a.fCode.length), tgt (a.fCode[i]).fOp = true → 0 ≤ (a.fCode[i]).fA ∧ (a.fCode[i]).fA < a.fCode.length) :
  m_s_CheckThread_L2 a b 0 = some (if allN (thrC a.fCode b.fCode) 0 a.fCode.length = true then .inl () else .inr false) := by
 have hc := ha.code
 refine loop_all0 (L := m_s_CheckThread_L2 a b) _ _ (fun k hk => ?_) (by rw [m_s_CheckThread_L2, if_neg (by omega)])
 have key : m_s_CheckThread_L2 a b (k : Int) = if thrC a.fCode b.fCode k = true then m_s_CheckThread_L2 a b ((k + 1 : Nat) : Int) else some (.inr false) := by
  rw [m_s_CheckThread_L2, if_pos (by omega), idx_gC (l := b.fCode) (by omega), sb, idx_gC hk, sb, sTgt, w_succ (by omega)]
  unfold thrC
  generalize hx : gC a.fCode k = x
  generalize hy : gC b.fCode k = y
  by_cases ho : y.fOp = x.fOp
  ·rw [decide_eq_true ho, Bool.true_and, if_pos ho, sb, ho]
   cases ht : tgt x.fOp
   ·rw [if_neg (by simp), sb, if_neg (show ¬ (false = true) by simp)]
    by_cases h : y = x
    ·rw [if_pos h, if_pos (by simp [h])]
    ·rw [if_neg h, if_neg (by simp [h])]
   ·have hT := hA k hk (by rw [← gC_at hk, hx]; exact ht)
    rw [← gC_at hk, hx] at hT
    obtain ⟨n, hn⟩ : ∃ n : Nat, x.fA = (n : Int) := ⟨x.fA.toNat, by omega⟩
    have hj := jumps_of hA
    rw [if_pos rfl, if_pos rfl, sb]
    obtain ⟨r, hw, _⟩ := sWalk hj hc y.fA (a := n) (by omega)
    rw [hn, hw, sb, Int.toNat_natCast]
    dsimp only
    by_cases hm : y.fA ∈ (n : Int) :: wk a.fCode a.fCode.length n
    ·rw [if_pos (by simpa using hm), decide_eq_true hm, Bool.true_and, sb, sb, hn]
     by_cases he : TIns.mk x.fOp (n : Int) y.fB y.fS y.fT = x
     ·rw [if_pos he, if_pos (by rw [decide_eq_true he])]
     ·rw [if_neg he, if_neg (by rw [decide_eq_false he]; simp)]
    ·rw [if_neg (by simpa using hm), decide_eq_false hm, Bool.false_and]; rfl
  ·rw [decide_eq_false ho, Bool.false_and, if_neg ho]; rfl
 exact ⟨fun h => by rw [key, if_pos h], fun h => by rw [key, if_neg (by rw [h]; simp)]⟩
theorem isFunc_fits (a : TFunc) (ha : Fits a) : ∃ b, m_i_IsFunc a = some b ∧ m_s_IsFunc a = some b ∧ (b = true → ∃ l, m_i_HeightsOf a = some (l, true) ∧ m_s_HeightsOf a = some (l, true) ∧ l.length = a.fCode.length ∧
   (∀ i (hi : i < a.fCode.length), tgt (a.fCode[i]).fOp = true → 0 ≤ (a.fCode[i]).fA ∧ (a.fCode[i]).fA < a.fCode.length)) :=
 isFunc_eq a ha.code ha.slots ha.params ha.uses ha.name
theorem three {A B C : Option Bool} {X Y : Option Bool} {v1 v2 v3 : Bool} {A' B' C' : Option Bool} (a1 : A = some v1) (a2 : B = some v2) (a3 : C = some v3) (b1 : A' = some v1) (b2 : B' = some v2) (b3 : C' = some v3)
  (h : v1 = true → v2 = true → v3 = true → ∃ v, X = some v ∧ Y = some v) :
  ∃ v, (A >>= fun x => (if x = true then B >>= fun y => (if y = true then C >>= fun z => (if z = true then X else some false) else some false) else some false)) = some v ∧
   (A' >>= fun x => (if x = true then B' >>= fun y => (if y = true then C' >>= fun z => (if z = true then Y else some false) else some false) else some false)) = some v := by
 subst a1 a2 a3 b1 b2 b3
 cases v1
 ·exact ⟨_, rfl, rfl⟩
 cases v2
 ·exact ⟨_, rfl, rfl⟩
 cases v3
 ·exact ⟨_, rfl, rfl⟩
 exact h rfl rfl rfl
theorem thread_eq (a b : TFunc) (ha : Fits a) (hb : Fits b) : ∃ v, m_i_CheckThread a b = some v ∧ m_s_CheckThread a b = some v := by
 unfold m_i_CheckThread m_s_CheckThread
 obtain ⟨v1, i1, s1, f1⟩ := isFunc_fits a ha
 obtain ⟨v2, i2, s2, _⟩ := isFunc_fits b hb
 obtain ⟨v3, i3, s3⟩ := agree_eq a b ha
 refine three i1 i2 i3 s1 s2 s3 fun h1 h2 h3 => ?_
 by_cases hl : a.fCode.length = b.fCode.length
 ·obtain ⟨l, _, _, _, hA⟩ := f1 h1
  rw [if_pos (by omega), if_pos (by omega), iThr a b ha hl hA, sThr a b ha hl hA]
  cases allN (thrC a.fCode b.fCode) 0 a.fCode.length <;> exact ⟨_, rfl, rfl⟩
 ·rw [if_neg (by omega), if_neg (by omega)]
  exact ⟨_, rfl, rfl⟩
end Go.Am
