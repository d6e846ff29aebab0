/- What is known of the package-level variables throughout a call: nothing, in this seat (its laws reach none). -/
import Derived.WalkKit
namespace Go.Am
open Go
def ambTabs : List (Nat × Array Value) := []
def ambSents : List Nat := []
def ambInts : List Nat := []
end Go.Am
