/- What is known of the package-level variables throughout a call: tables, and variables that hold an interface value. (Of this seat: strconv's table of powers, its two errors, bytealg's MaxLen.) -/
import Derived.WalkKit
namespace Go.Am
open Go
def pow10 : List Int := [1, 10, 100, 1000, 10000, 100000, 1000000, 10000000, 100000000, 1000000000, 10000000000, 100000000000, 1000000000000, 10000000000000, 100000000000000, 1000000000000000, 10000000000000000, 100000000000000000, 1000000000000000000, 10000000000000000000]
def ambTabs : List (Nat × Array Value) := [(1, (pow10.map fun z => Value.int .u64 z).toArray)]
def ambSents : List Nat := []
def ambInts : List Nat := [0]
end Go.Am
