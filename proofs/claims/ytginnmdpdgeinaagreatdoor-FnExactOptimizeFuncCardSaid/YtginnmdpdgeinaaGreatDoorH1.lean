/- Giving a height keeps the row's length. -/
import Derived.Test.YtginnmdpdgeinaaGreatDoorA4
set_option linter.unusedVariables false
namespace Go.Am
open Go Go.RowKit Go.Proofs
theorem l27Give_len {a0 : List Int} {a1 a2 : Int} {b1 b2 : Bool} {l : List Int} (hv : m_s_l27Give a0 a1 a2 = some (b1, b2, l)) : l.length = a0.length := by
 unfold m_s_l27Give at hv
 obtain ⟨o1, h1, h2⟩ := bind_some hv
 cases o1 with
 | inl u =>
  obtain ⟨x, _, h2⟩ := bind_some h2
  obtain ⟨y, _, h2⟩ := bind_some h2
  cases h2
  simp
 | inr r =>
  cases h2
  suffices hh : ∀ o : (Unit ⊕ (Bool × Bool × List Int)), _ = some o → ∀ r, o = .inr r → r.2.2 = a0 by
   exact congrArg List.length (hh _ h1 _ rfl)
  intro o ho r hr
  subst hr
  split at ho
  ·cases ho; rfl
  ·obtain ⟨v, _, ho⟩ := bind_some ho
   split at ho
   ·obtain ⟨x, _, ho⟩ := bind_some ho
    split at ho
    ·obtain ⟨y, _, ho⟩ := bind_some ho
     split at ho
     ·cases ho
     ·cases ho; rfl
    ·cases ho
   ·cases ho; rfl
end Go.Am
