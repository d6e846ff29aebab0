/- The contract of strings.Compare. -/
import Derived.Test.YtgkniabpdgaoiaaDoorL1
set_option linter.unusedVariables false
set_option linter.unusedSimpArgs false
namespace Go.Am
open Go Go.RowKit Go.Proofs
def m_Compare (a b : Str) : Option Int := some (Lib.compareBytes a b)
theorem ok_Compare {a0 a1 : Str} {r : Int} (h : m_Compare a0 a1 = some r) : ACall Tryd.prog 35 [.str a0, .str a1] [] (fun res h => res = .int .i64 r ∧ h = []) := by
 cases h
 refine ACall.ext ⟨_, _, Tryd.func35, rfl, by kernel_rfl⟩ (fun w vs S ha hS hsz hj => ?_) rfl []
 obtain ⟨v, hv, hp⟩ := hj 0 _ rfl
 cases hp
 obtain ⟨v', hv', hp'⟩ := hj 1 _ rfl
 cases hp'
 obtain rfl := args2 hsz hv hv'
 refine (Tryd.strings_Compare ⟨⟨a0⟩⟩ ⟨⟨a1⟩⟩ w).mono ?_
 rintro e w' ⟨rfl, rfl⟩
 exact ⟨_, rfl, fun _ _ _ _ => .int _ _, Below.refl _ _⟩
end Go.Am
