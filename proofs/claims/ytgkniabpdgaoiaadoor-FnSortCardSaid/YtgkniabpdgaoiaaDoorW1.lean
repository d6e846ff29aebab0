/- The plain law, first part: numerals. -/
import Derived.Test.YtgkniabpdgaoiaaDoorF2
import Derived.Test.YtgkniabpdgaoiaaDoorL1
import Derived.Lib.AtoiTie
set_option linter.unusedVariables false
set_option linter.unusedSimpArgs false
namespace Go.Am
open Go Go.RowKit Go.Proofs
theorem sb {α β : Type} (a : α) (f : α → Option β) : (some a >>= f) = f a := rfl
theorem sidx_nat {s : Str} {i : Nat} (h : i < s.length) : sidx s (i : Int) = some (s.getD i 0) := by
 unfold sidx; rw [if_pos ⟨by omega, by omega⟩]; rfl
theorem idx_nat {α : Type} [Inhabited α] {l : List α} {i : Nat} (h : i < l.length) : idx l (i : Int) = some l[i] := by
 unfold idx; rw [if_pos ⟨by omega, by omega⟩]
 simp [List.getD_eq_getElem?_getD, h]
theorem w_nat {x : Int} {n : Nat} (h : x = (n : Int)) (hn : n ≤ 9223372036854775807) : W64 x = (n : Int) := by
 subst h; exact w64 (by omega) (by omega)
theorem w_succ {i : Nat} (h : i < 9223372036854775807) : W64 ((i : Int) + 1) = ((i + 1 : Nat) : Int) := w_nat (by omega) (by omega)
theorem lapp_eq {α : Type} {b : Nat} {l m : List α} (h : (l.length + m.length) * b ≤ 140737488355328) : lapp b l m = some (l ++ m) := if_pos h
def keep (s : Str) (o : Option Int) : Option Int :=
 match o with | some n => if Lib.itoa n = s ∧ (-1000000000 : Int) ≤ n ∧ n ≤ 1000000000 then some n else none | none => none
end Go.Am
