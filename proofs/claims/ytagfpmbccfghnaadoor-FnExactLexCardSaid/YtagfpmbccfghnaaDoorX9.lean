/- A token. (Printed by gen9.py.) -/
import Derived.Test.YtagfpmbccfghnaaDoorX8
set_option linter.unusedVariables false
set_option linter.unusedSimpArgs false
namespace Go.Am
open Go Go.RowKit Go.Proofs

def isWs (c : UInt8) : Prop := c.toNat = 32 ∨ c.toNat = 9 ∨ c.toNat = 10 ∨ c.toNat = 13
instance (c : UInt8) : Decidable (isWs c) := by unfold isWs; infer_instance
/-- How far a comment goes. -/
def cm : List UInt8 → Nat
  | [] => 0
  | c :: r => if c.toNat = 10 ∨ Lib.hasPrefix (c :: r) [63, 62] = true then 0 else cm r + 1
theorem cm_le : ∀ l : List UInt8, cm l ≤ l.length
  | [] => Nat.le_refl _
  | c :: r => by
    unfold cm
    have := cm_le r
    split
    · omega
    · simp; omega
theorem cm_lt : ∀ (l : List UInt8) (n : Nat), n ≤ cm l → (n < cm l ↔ n < l.length ∧ ¬ (l.getD n 0).toNat = 10 ∧ Lib.hasPrefix (l.drop n) [63, 62] = false)
  | [], n, h => by simp [cm] at h ⊢
  | c :: r, 0, h => by
    unfold cm
    by_cases hp : c.toNat = 10 ∨ Lib.hasPrefix (c :: r) [63, 62] = true
    · rw [if_pos hp]
      constructor
      · intro h; omega
      · rintro ⟨_, h1, h2⟩
        rcases hp with hp | hp
        · exact absurd hp h1
        · simp only [List.drop_zero] at h2; rw [hp] at h2; cases h2
    · rw [if_neg hp]
      refine ⟨fun _ => ⟨by simp, fun h1 => hp (.inl h1), ?_⟩, fun _ => by omega⟩
      simp only [List.drop_zero]
      cases hb : Lib.hasPrefix (c :: r) [63, 62] with
      | false => rfl
      | true => exact absurd (.inr hb) hp
  | c :: r, n + 1, h => by
    unfold cm at h ⊢
    by_cases hp : c.toNat = 10 ∨ Lib.hasPrefix (c :: r) [63, 62] = true
    · rw [if_pos hp] at h; omega
    · rw [if_neg hp] at h ⊢
      have := cm_lt r n (by omega)
      rw [Nat.add_lt_add_iff_right, this]
      simp
def semiEnd (s : List UInt8) (pos : Nat) : Nat := if pos + 2 < s.length ∧ (s.getD (pos + 2) 0).toNat = 10 then pos + 3 else pos + 2
def numH (s : List UInt8) (pos : Nat) (ts : List Tk) (n : Nat) : Option Int → List AObj
  | none => LH s pos 4 ts
  | some v => LH s ((pos + n : Nat) : Int) 0 (ts ++ [Tk.mk 4 v [] pos])
/-- What one token makes of the lexer. -/
def tokH (s : List UInt8) (pos : Nat) (ts : List Tk) : List AObj :=
  if isWs (s.getD pos 0) then LH s ((pos + 1 : Nat) : Int) 0 ts
  else if Lib.hasPrefix (s.drop pos) [63, 62] = true then inlH s (semiEnd s pos) (ts ++ [Tk.mk 6 0 [59] pos])
  else if Lib.hasPrefix (s.drop pos) [47, 47] = true then LH s ((pos + cm (s.drop pos) : Nat) : Int) 0 ts
  else if (s.getD pos 0).toNat = 36 then
    (if nameLen ((s.drop pos).drop 1) = 0 then LH s pos 2 ts else LH s ((pos + (1 + nameLen ((s.drop pos).drop 1)) : Nat) : Int) 0 (ts ++ [Tk.mk 2 0 (((s.drop pos).take (1 + nameLen ((s.drop pos).drop 1))).drop 1) pos]))
  else if 0 < nameLen (s.drop pos) then LH s ((pos + nameLen (s.drop pos) : Nat) : Int) 0 (ts ++ [Tk.mk 3 0 ((s.drop pos).take (nameLen (s.drop pos))) pos])
  else if dig (s.getD pos 0) = true then numH s pos ts (digLen (s.drop pos)) (pw ((s.drop pos).take (digLen (s.drop pos))) (-1000000000) 1000000000)
  else if (s.getD pos 0).toNat = 39 then textH s pos ts (strGo ((s.drop pos).drop 1) [] 1)
  else markH s pos ts (marksI.find? fun m => Lib.hasPrefix (s.drop pos) m)

/-! ### The function's end, the lexer as a call has left it -/
theorem LH_app (s : List UInt8) (p c p' c' : Int) (ts x : List Tk) : (LH s p c ts).length ≤ (LH s p' c' (ts ++ x)).length := by
  cases ts with
  | nil => cases x <;> simp [LH]
  | cons t ts => simp [LH]
theorem ends_LH {m : Nat} {R : PV → List AObj → Prop} (s : List UInt8) (p c : Int) (T : List Tk) (hm : m ≤ (LH s p c T).length) (hR : R .junk (LH s p c T)) : Ends m R (LH s p c T) [] := by
  cases T with
  | nil =>
    exact ⟨[0], .junk, LH s p c [], by simp, hm, .junk _, ⟨⟨fun _ => ⟨rfl, rfl⟩, rfl, rfl, rfl, fun i hi => ⟨.str_eq rfl, .int_eq rfl, .nils, .int_eq rfl, trivial⟩⟩, trivial⟩, hR⟩
  | cons t ts =>
    exact ⟨[0, 1], .junk, LH s p c (t :: ts), by simp, hm, .junk _, ⟨⟨fun _ => ⟨rfl, rfl⟩, rfl, rfl, rfl, fun i hi => ⟨.str_eq rfl, .int_eq rfl, .own_eq rfl ⟨_, _, _, _, rfl⟩ ⟨_, _, _, _, rfl⟩ rfl rfl, .int_eq rfl, trivial⟩⟩,
      ⟨fun _ => ⟨rfl, rfl⟩, rfl, rfl, rfl, fun i hi => ⟨.int_eq rfl, .int_eq rfl, .str_eq rfl, .int_eq rfl, trivial⟩⟩, trivial⟩, hR⟩
theorem ends_text {R : PV → List AObj → Prop} (s : List UInt8) (p : Int) (ts : List Tk) (r : Option (List UInt8 × Nat)) (hR : R .junk (textH s p ts r)) : Ends (LH s p 0 ts).length R (textH s p ts r) [] := by
  cases r with
  | none => exact ends_LH s p 3 ts (by have := LH_app s p 0 p 3 ts []; simpa using this) hR
  | some q => obtain ⟨a, b⟩ := q; exact ends_LH s _ 0 _ (LH_app _ _ _ _ _ _ _) hR
theorem ends_mark {R : PV → List AObj → Prop} (s : List UInt8) (p : Int) (ts : List Tk) (r : Option (List UInt8)) (hR : R .junk (markH s p ts r)) : Ends (LH s p 0 ts).length R (markH s p ts r) [] := by
  cases r with
  | none => exact ends_LH s p 2 ts (by have := LH_app s p 0 p 2 ts []; simpa using this) hR
  | some q => exact ends_LH s _ 0 _ (LH_app _ _ _ _ _ _ _) hR
theorem ends_inl {R : PV → List AObj → Prop} (s : List UInt8) (p : Int) (q : Nat) (ts x : List Tk) (hR : R .junk (inlH s q (ts ++ x))) : Ends (LH s p 0 ts).length R (inlH s q (ts ++ x)) [] := by
  have hx : ∃ y, inlT s q (ts ++ x) = ts ++ y := by
    unfold inlT
    split
    · exact ⟨_, List.append_assoc _ _ _⟩
    · exact ⟨_, rfl⟩
  obtain ⟨y, hy⟩ := hx
  unfold inlH at hR ⊢
  rw [hy] at hR ⊢
  split
  · rename_i h1; rw [if_pos h1] at hR; exact ends_LH s _ 0 _ (LH_app _ _ _ _ _ _ _) hR
  · rename_i h1
    rw [if_neg h1] at hR
    split
    · rename_i h2
      rw [if_pos h2, List.append_assoc] at hR
      rw [List.append_assoc]
      exact ends_LH s _ 0 _ (LH_app _ _ _ _ _ _ _) hR
    · rename_i h2; rw [if_neg h2] at hR; exact ends_LH s _ 0 _ (LH_app _ _ _ _ _ _ _) hR

end Go.Am
