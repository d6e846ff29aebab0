/-
  No cell of these rows narrows 'for every input' (looked for: loops, veiled, ifaces, maps, wideKeys, modest, calm, conditions, laid).
  DERIVED. THE GIVEN ROWS OF THIS SEAT. 4 by the template 'for every input the law returns true; each argument reads behind the call as it read before'; 0 by the template 'total and deterministic' (their statements: YtnehfdofoemnfaaTotals.lean).
  GIVEN WITH THE SEED: the statements are not yours to turn. If you find one false, say at which input.
  Laid BY PROGRAM, IN A SANDBOX (cutbox-rows.mjs): the forced cells as the released guide's own fill.sh prints them over the translation 75b674708b8b839f… (all of the seat's roots in one cut). By AI agents, Wed Nov 11 2026. No macro, syntax, notation, axiom, sorry.
-/
import Derived.Test.YtnehfdofoemnfaaChecked
import GoSem.Claim
import GoSem.ClaimJoined
import GoSem.ClaimMapViews
import Derived.JoinedTies
import Derived.KernelRfl
namespace Go.Proofs.Ytnehfdofoemnfaa
/- THE CELL 'sum', in the pinned program and in every row, IS THE sha256 OF THE DUMP (.gsa) THAT YtnehfdofoemnfaaProg.lean LOADS. Nothing in Lean hashes anything: it is a label: what it is worth is what the hold of that sum in a sandbox is worth. -/
noncomputable def Try.pinned : Pinned := { name := "ytnehfdofoemnfaa", sum := "75b674708b8b839f5a294ed03f632699756097742a59de8dc8ba1237bcee271c", checked := Try.checked }
namespace Rows
def none {H : Type} : Left H := { results := [], args := [] }

/-- 'laws.FnExactCheckDrop': WHATEVER THE INPUT: true; the input reads as it did. -/
def fnExactCheckDropSpec : ChangeSpec := { name := "fnExactCheckDrop", fn := fun _ => fun
  | [d1, d2, d3] => { results := [.lit (.bool true)], args := [d1, d2, d3] }
  | _ => none }
def fnExactCheckDropRow : OpenClaim := { program := "ytnehfdofoemnfaa", sum := "75b674708b8b839f5a294ed03f632699756097742a59de8dc8ba1237bcee271c", func := "loop.example/g03011/laws.FnExactCheckDrop", spec := "fnExactCheckDrop", unfollowed := true, recurses := true, apart := false }
def FnExactCheckDropSaid : Prop := fnExactCheckDropRow.holds Try.pinned (OpenSpec.ofChange fnExactCheckDropSpec)

/-- ITS FALSE NEIGHBOUR: 'it returns false'. Refute it at one input. -/
def fnExactCheckDropWrong : ChangeSpec := { name := "fnExactCheckDrop", fn := fun _ => fun
  | [d1, d2, d3] => { results := [.lit (.bool false)], args := [d1, d2, d3] }
  | _ => none }
def FnExactCheckDropWrongFalsely : Prop := fnExactCheckDropRow.holds Try.pinned (OpenSpec.ofChange fnExactCheckDropWrong)

/-- 'laws.FnExactCheckThread': WHATEVER THE INPUT: true; the input reads as it did. -/
def fnExactCheckThreadSpec : ChangeSpec := { name := "fnExactCheckThread", fn := fun _ => fun
  | [d1, d2] => { results := [.lit (.bool true)], args := [d1, d2] }
  | _ => none }
def fnExactCheckThreadRow : OpenClaim := { program := "ytnehfdofoemnfaa", sum := "75b674708b8b839f5a294ed03f632699756097742a59de8dc8ba1237bcee271c", func := "loop.example/g03011/laws.FnExactCheckThread", spec := "fnExactCheckThread", unfollowed := true, recurses := true, apart := false }
def FnExactCheckThreadSaid : Prop := fnExactCheckThreadRow.holds Try.pinned (OpenSpec.ofChange fnExactCheckThreadSpec)

/-- ITS FALSE NEIGHBOUR: 'it returns false'. Refute it at one input. -/
def fnExactCheckThreadWrong : ChangeSpec := { name := "fnExactCheckThread", fn := fun _ => fun
  | [d1, d2] => { results := [.lit (.bool false)], args := [d1, d2] }
  | _ => none }
def FnExactCheckThreadWrongFalsely : Prop := fnExactCheckThreadRow.holds Try.pinned (OpenSpec.ofChange fnExactCheckThreadWrong)

/-- 'laws.FnExactThreadCode': WHATEVER THE INPUT: true; the input reads as it did. -/
def fnExactThreadCodeSpec : ChangeSpec := { name := "fnExactThreadCode", fn := fun _ => fun
  | [d] => { results := [.lit (.bool true)], args := [d] }
  | _ => none }
def fnExactThreadCodeRow : OpenClaim := { program := "ytnehfdofoemnfaa", sum := "75b674708b8b839f5a294ed03f632699756097742a59de8dc8ba1237bcee271c", func := "loop.example/g03011/laws.FnExactThreadCode", spec := "fnExactThreadCode", unfollowed := true, recurses := true, apart := false }
def FnExactThreadCodeSaid : Prop := fnExactThreadCodeRow.holds Try.pinned (OpenSpec.ofChange fnExactThreadCodeSpec)

/-- ITS FALSE NEIGHBOUR: 'it returns false'. Refute it at one input. -/
def fnExactThreadCodeWrong : ChangeSpec := { name := "fnExactThreadCode", fn := fun _ => fun
  | [d] => { results := [.lit (.bool false)], args := [d] }
  | _ => none }
def FnExactThreadCodeWrongFalsely : Prop := fnExactThreadCodeRow.holds Try.pinned (OpenSpec.ofChange fnExactThreadCodeWrong)

/-- 'laws.FnExactDropCode': WHATEVER THE INPUT: true; the input reads as it did. -/
def fnExactDropCodeSpec : ChangeSpec := { name := "fnExactDropCode", fn := fun _ => fun
  | [d] => { results := [.lit (.bool true)], args := [d] }
  | _ => none }
def fnExactDropCodeRow : OpenClaim := { program := "ytnehfdofoemnfaa", sum := "75b674708b8b839f5a294ed03f632699756097742a59de8dc8ba1237bcee271c", func := "loop.example/g03011/laws.FnExactDropCode", spec := "fnExactDropCode", unfollowed := true, recurses := true, apart := false }
def FnExactDropCodeSaid : Prop := fnExactDropCodeRow.holds Try.pinned (OpenSpec.ofChange fnExactDropCodeSpec)

/-- ITS FALSE NEIGHBOUR: 'it returns false'. Refute it at one input. -/
def fnExactDropCodeWrong : ChangeSpec := { name := "fnExactDropCode", fn := fun _ => fun
  | [d] => { results := [.lit (.bool false)], args := [d] }
  | _ => none }
def FnExactDropCodeWrongFalsely : Prop := fnExactDropCodeRow.holds Try.pinned (OpenSpec.ofChange fnExactDropCodeWrong)

/- THE SECOND FORM. 'bulk': how many values and letters a reading holds, each counted each time it is reached (what is shared counts as often as it is met; a slice's spare places count too). A statement '..UptoSaid' is the law's where the arguments, and the package variables that the reading takes, are together of bulk at most 1048576: NARROWER than '..Said'. Prove '..Said' where nothing that the law and all that it calls make is longer than what came in: it says more and counts as full. Else prove '..UptoSaid'. A law counts once. -/
mutual
def uptoBulk {H : Type} : DataW H → Nat
  | .lit (.string bytes) => bytes.length + 1
  | .lit _ => 1
  | .nil => 1
  | .ptr d => uptoBulk d + 1
  | .slice elems spare => uptoBulkAll elems + uptoBulkAll spare + 1
  | .agg parts => uptoBulkAll parts + 1
  | .iface _ d => uptoBulk d + 1
  | .map entries => uptoBulkEntries entries + 1
  | .held _ => 1
def uptoBulkAll {H : Type} : List (DataW H) → Nat
  | [] => 0
  | d :: r => uptoBulk d + uptoBulkAll r
def uptoBulkEntries {H : Type} : List (Lit × DataW H) → Nat
  | [] => 0
  | x :: r => uptoBulkEntry x + uptoBulkEntries r
def uptoBulkEntry {H : Type} : Lit × DataW H → Nat
  | (.string bytes, d) => bytes.length + uptoBulk d + 1
  | (_, d) => uptoBulk d + 1
 end
def uptoSmall : (H : Type) → List (DataW H) → Bool := fun _ ds => decide (uptoBulkAll ds ≤ 1048576)
def OpenSpec.upto (s : _root_.Go.ChangeSpec) : _root_.Go.OpenSpec := { _root_.Go.OpenSpec.ofChange s with cond := some uptoSmall }

/-- 'laws.FnExactCheckDrop', WHERE WHAT IT READS IS OF BULK AT MOST 1048576: true; the input reads as it did. -/
def fnExactCheckDropUptoRow : OpenClaim := { program := "ytnehfdofoemnfaa", sum := "75b674708b8b839f5a294ed03f632699756097742a59de8dc8ba1237bcee271c", func := "loop.example/g03011/laws.FnExactCheckDrop", spec := "fnExactCheckDrop", unfollowed := true, recurses := true, apart := false, narrowed := true }
def FnExactCheckDropUptoSaid : Prop := fnExactCheckDropUptoRow.holds Try.pinned (OpenSpec.upto fnExactCheckDropSpec)

/-- 'laws.FnExactCheckThread', WHERE WHAT IT READS IS OF BULK AT MOST 1048576: true; the input reads as it did. -/
def fnExactCheckThreadUptoRow : OpenClaim := { program := "ytnehfdofoemnfaa", sum := "75b674708b8b839f5a294ed03f632699756097742a59de8dc8ba1237bcee271c", func := "loop.example/g03011/laws.FnExactCheckThread", spec := "fnExactCheckThread", unfollowed := true, recurses := true, apart := false, narrowed := true }
def FnExactCheckThreadUptoSaid : Prop := fnExactCheckThreadUptoRow.holds Try.pinned (OpenSpec.upto fnExactCheckThreadSpec)

/-- 'laws.FnExactThreadCode', WHERE WHAT IT READS IS OF BULK AT MOST 1048576: true; the input reads as it did. -/
def fnExactThreadCodeUptoRow : OpenClaim := { program := "ytnehfdofoemnfaa", sum := "75b674708b8b839f5a294ed03f632699756097742a59de8dc8ba1237bcee271c", func := "loop.example/g03011/laws.FnExactThreadCode", spec := "fnExactThreadCode", unfollowed := true, recurses := true, apart := false, narrowed := true }
def FnExactThreadCodeUptoSaid : Prop := fnExactThreadCodeUptoRow.holds Try.pinned (OpenSpec.upto fnExactThreadCodeSpec)

/-- 'laws.FnExactDropCode', WHERE WHAT IT READS IS OF BULK AT MOST 1048576: true; the input reads as it did. -/
def fnExactDropCodeUptoRow : OpenClaim := { program := "ytnehfdofoemnfaa", sum := "75b674708b8b839f5a294ed03f632699756097742a59de8dc8ba1237bcee271c", func := "loop.example/g03011/laws.FnExactDropCode", spec := "fnExactDropCode", unfollowed := true, recurses := true, apart := false, narrowed := true }
def FnExactDropCodeUptoSaid : Prop := fnExactDropCodeUptoRow.holds Try.pinned (OpenSpec.upto fnExactDropCodeSpec)

end Rows
end Go.Proofs.Ytnehfdofoemnfaa
