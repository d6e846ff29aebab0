/- The law on CheckDrop over what came in. -/
import Derived.Test.YtnehfdofoemnfaaE1
import Derived.Test.YtnehfdofoemnfaaP13
set_option linter.unusedVariables false
set_option linter.unusedSimpArgs false
namespace Go.Am
open Go Go.RowKit Go.Proofs
theorem gI_getD (l : List Int) (i : Nat) : gI l i = l.getD i 0 := rfl
/-- A row of numbers that came in, as an argument. -/
theorem argN {H : Type} {enc : TypeId × Value → H} {w : World} {spare : Nat → Bool} {held : Bool} {a : Option Addr} {len cap : Nat} {d : DataW H} {p : List MemPlace} (h : DataW.Trod enc Try.prog w 0 spare held 27 (.slice a len cap) d p) :
    ∃ l : List Int, l.length ≤ 9223372036854775807 ∧ ARep (fun _ => none) [] (fun b => b < w.heap.size) w (sl 1 cI l) (.slice a len cap) := by
  obtain ⟨fuel, hf⟩ := h
  obtain ⟨l, h1, _, h2⟩ := prepL (S := fun b => b < w.heap.size) cI (fun _ => True) 0 gI Try.underlying27 ct3 (by decide) (fun _ => rfl) (fun _ _ => rfl) (fun _ hb => hb) (fun n _ cs x h => prepInt1 n cs x h) hf
  exact ⟨l, h1, h2⟩
theorem law_dropA (a b : TFunc) (K : List Int) (ha : a.Ok) (hb : b.Ok) (hK : K.length ≤ 9223372036854775807) : ACall Try.prog 3 [.agg a.cells, .agg b.cells, sl 1 cI K] [] (fun res _ => res = .bool true) :=
  (ok_l_FnExactCheckDrop (law_drop a b K ha hb hK)).mono (fun _ _ h => h.1)
end Go.Am
