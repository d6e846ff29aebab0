/-
  NARROWER THAN 'FOR EVERY INPUT', by the rows' own cells (each row's printed sentence says how): FnExactPushOf: loops · FnExactCodeSize: loops.
  DERIVED. THE GIVEN ROWS OF THIS SEAT. 3 by the template 'for every input the law returns true; each argument reads behind the call as it read before'; 0 by the template 'total and deterministic' (their statements: YtiealnpaponjcaaTotals.lean).
  GIVEN WITH THE SEED: the statements are not yours to turn. If you find one false, say at which input.
  Laid BY PROGRAM, IN A SANDBOX (cutbox-rows.mjs): the forced cells as the released guide's own fill.sh prints them over the translation 883414e923743d09… (all of the seat's roots in one cut). By AI agents, Wed Nov 11 2026. No macro, syntax, notation, axiom, sorry.
-/
import Derived.Test.YtiealnpaponjcaaChecked
import GoSem.Claim
import GoSem.ClaimJoined
import GoSem.ClaimMapViews
import Derived.JoinedTies
import Derived.KernelRfl
namespace Go.Proofs.Ytiealnpaponjcaa
/- THE CELL 'sum', in the pinned program and in every row, IS THE sha256 OF THE DUMP (.gsa) THAT YtiealnpaponjcaaProg.lean LOADS. Nothing in Lean hashes anything: it is a label: what it is worth is what the hold of that sum in a sandbox is worth. -/
noncomputable def Try.pinned : Pinned := { name := "ytiealnpaponjcaa", sum := "883414e923743d092304e8cbb702dfe7ceb81b3aaba06eaaed273522d290d014", checked := Try.checked }
namespace Rows
def none {H : Type} : Left H := { results := [], args := [] }

/-- 'laws.FnExactPushOf': WHATEVER THE INPUT: true; the input reads as it did. -/
def fnExactPushOfSpec : ChangeSpec := { name := "fnExactPushOf", fn := fun _ => fun
  | [d] => { results := [.lit (.bool true)], args := [d] }
  | _ => none }
def fnExactPushOfRow : OpenClaim := { program := "ytiealnpaponjcaa", sum := "883414e923743d092304e8cbb702dfe7ceb81b3aaba06eaaed273522d290d014", func := "loop.example/g03011/laws.FnExactPushOf", spec := "fnExactPushOf", recurses := true, loops := true, apart := false }
def FnExactPushOfSaid : Prop := fnExactPushOfRow.holds Try.pinned (OpenSpec.ofChange fnExactPushOfSpec)

/-- ITS FALSE NEIGHBOUR: 'it returns false'. Refute it at one input. -/
def fnExactPushOfWrong : ChangeSpec := { name := "fnExactPushOf", fn := fun _ => fun
  | [d] => { results := [.lit (.bool false)], args := [d] }
  | _ => none }
def FnExactPushOfWrongFalsely : Prop := fnExactPushOfRow.holds Try.pinned (OpenSpec.ofChange fnExactPushOfWrong)

/-- 'laws.FnExactPushValue': WHATEVER THE INPUT: true; the input reads as it did. -/
def fnExactPushValueSpec : ChangeSpec := { name := "fnExactPushValue", fn := fun _ => fun
  | [d] => { results := [.lit (.bool true)], args := [d] }
  | _ => none }
def fnExactPushValueRow : OpenClaim := { program := "ytiealnpaponjcaa", sum := "883414e923743d092304e8cbb702dfe7ceb81b3aaba06eaaed273522d290d014", func := "loop.example/g03011/laws.FnExactPushValue", spec := "fnExactPushValue", recurses := true, apart := false }
def FnExactPushValueSaid : Prop := fnExactPushValueRow.holds Try.pinned (OpenSpec.ofChange fnExactPushValueSpec)

/-- ITS FALSE NEIGHBOUR: 'it returns false'. Refute it at one input. -/
def fnExactPushValueWrong : ChangeSpec := { name := "fnExactPushValue", fn := fun _ => fun
  | [d] => { results := [.lit (.bool false)], args := [d] }
  | _ => none }
def FnExactPushValueWrongFalsely : Prop := fnExactPushValueRow.holds Try.pinned (OpenSpec.ofChange fnExactPushValueWrong)

/-- 'laws.FnExactCodeSize': WHATEVER THE INPUT: true; the input reads as it did. -/
def fnExactCodeSizeSpec : ChangeSpec := { name := "fnExactCodeSize", fn := fun _ => fun
  | [d] => { results := [.lit (.bool true)], args := [d] }
  | _ => none }
def fnExactCodeSizeRow : OpenClaim := { program := "ytiealnpaponjcaa", sum := "883414e923743d092304e8cbb702dfe7ceb81b3aaba06eaaed273522d290d014", func := "loop.example/g03011/laws.FnExactCodeSize", spec := "fnExactCodeSize", recurses := true, loops := true, apart := false }
def FnExactCodeSizeSaid : Prop := fnExactCodeSizeRow.holds Try.pinned (OpenSpec.ofChange fnExactCodeSizeSpec)

/-- ITS FALSE NEIGHBOUR: 'it returns false'. Refute it at one input. -/
def fnExactCodeSizeWrong : ChangeSpec := { name := "fnExactCodeSize", fn := fun _ => fun
  | [d] => { results := [.lit (.bool false)], args := [d] }
  | _ => none }
def FnExactCodeSizeWrongFalsely : Prop := fnExactCodeSizeRow.holds Try.pinned (OpenSpec.ofChange fnExactCodeSizeWrong)

/- THE SECOND FORM. 'bulk': how many values and letters a reading holds, each counted each time it is reached (what is shared counts as often as it is met; a slice's spare places count too). A statement '..UptoSaid' is the law's where the arguments, and the package variables that the reading takes, are together of bulk at most 1048576: NARROWER than '..Said'. Prove '..Said' where nothing that the law and all that it calls make is longer than what came in: it says more and counts as full. Else prove '..UptoSaid'. A law counts once. -/
mutual
def uptoBulk {H : Type} : DataW H → Nat
  | .lit (.string bytes) => bytes.length + 1
  | .lit _ => 1
  | .nil => 1
  | .ptr d => uptoBulk d + 1
  | .slice elems spare => uptoBulkAll elems + uptoBulkAll spare + 1
  | .agg parts => uptoBulkAll parts + 1
  | .iface _ d => uptoBulk d + 1
  | .map entries => uptoBulkEntries entries + 1
  | .held _ => 1
def uptoBulkAll {H : Type} : List (DataW H) → Nat
  | [] => 0
  | d :: r => uptoBulk d + uptoBulkAll r
def uptoBulkEntries {H : Type} : List (Lit × DataW H) → Nat
  | [] => 0
  | x :: r => uptoBulkEntry x + uptoBulkEntries r
def uptoBulkEntry {H : Type} : Lit × DataW H → Nat
  | (.string bytes, d) => bytes.length + uptoBulk d + 1
  | (_, d) => uptoBulk d + 1
 end
def uptoSmall : (H : Type) → List (DataW H) → Bool := fun _ ds => decide (uptoBulkAll ds ≤ 1048576)
def OpenSpec.upto (s : _root_.Go.ChangeSpec) : _root_.Go.OpenSpec := { _root_.Go.OpenSpec.ofChange s with cond := some uptoSmall }

/-- 'laws.FnExactPushOf', WHERE WHAT IT READS IS OF BULK AT MOST 1048576: true; the input reads as it did. -/
def fnExactPushOfUptoRow : OpenClaim := { program := "ytiealnpaponjcaa", sum := "883414e923743d092304e8cbb702dfe7ceb81b3aaba06eaaed273522d290d014", func := "loop.example/g03011/laws.FnExactPushOf", spec := "fnExactPushOf", recurses := true, loops := true, apart := false, narrowed := true }
def FnExactPushOfUptoSaid : Prop := fnExactPushOfUptoRow.holds Try.pinned (OpenSpec.upto fnExactPushOfSpec)

/-- 'laws.FnExactPushValue', WHERE WHAT IT READS IS OF BULK AT MOST 1048576: true; the input reads as it did. -/
def fnExactPushValueUptoRow : OpenClaim := { program := "ytiealnpaponjcaa", sum := "883414e923743d092304e8cbb702dfe7ceb81b3aaba06eaaed273522d290d014", func := "loop.example/g03011/laws.FnExactPushValue", spec := "fnExactPushValue", recurses := true, apart := false, narrowed := true }
def FnExactPushValueUptoSaid : Prop := fnExactPushValueUptoRow.holds Try.pinned (OpenSpec.upto fnExactPushValueSpec)

/-- 'laws.FnExactCodeSize', WHERE WHAT IT READS IS OF BULK AT MOST 1048576: true; the input reads as it did. -/
def fnExactCodeSizeUptoRow : OpenClaim := { program := "ytiealnpaponjcaa", sum := "883414e923743d092304e8cbb702dfe7ceb81b3aaba06eaaed273522d290d014", func := "loop.example/g03011/laws.FnExactCodeSize", spec := "fnExactCodeSize", recurses := true, loops := true, apart := false, narrowed := true }
def FnExactCodeSizeUptoSaid : Prop := fnExactCodeSizeUptoRow.holds Try.pinned (OpenSpec.upto fnExactCodeSizeSpec)

end Rows
end Go.Proofs.Ytiealnpaponjcaa
