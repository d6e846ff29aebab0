/- The plain law, third part: arrays. -/
import Derived.Test.YtgkniabpdgaoiaaDoorW2
set_option linter.unusedVariables false
set_option linter.unusedSimpArgs false
namespace Go.Am
open Go Go.RowKit Go.Proofs
theorem m91_eq (a b : Int) : m91 a b = some (if b > a then b else a) := by unfold m91; split <;> rfl
end Go.Am
