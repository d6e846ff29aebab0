/- The end of a law whose argument is a struct. -/
import Derived.Test.YtiealnpaponjcaaQ6
set_option linter.unusedVariables false
set_option linter.unusedSimpArgs false
namespace Go.Am
open Go Go.RowKit Go.Proofs

theorem law_endA {P : Program} {f : FuncId} {args : List PV} {vs : Array Value} {w : World} (hA : ACall P f args [] (fun res _ => res = .bool true)) (hsz : vs.size = args.length)
    (ha : ∀ (j : Nat) (pv : PV), args[j]? = some pv → ∃ v, vs[j]? = some v ∧ ARep (fun _ => none) [] (fun b => b < w.heap.size) w pv v) :
    Calls P f vs w fun e w' => e = .returned (.bool true) ∧ Below w.heap.size w w' := by
  refine (hA.2 w vs (fun _ => none) (fun b => b < w.heap.size) (fun id g sz n e f hid => by simp at hid) ⟨fun b ⟨id, g, sz, n, e, f, base, h1, _⟩ => by simp at h1, fun b ⟨id, g, sz, n, e, f, base, h1, _⟩ => by simp at h1, fun b hb => hb, fun i j g sz n e f g' sz' n' e' f' b o o' hi => by simp at hi⟩ hsz (fun j pv hj => ?_)).mono ?_
  · exact ha j pv hj
  · rintro e w' ⟨v, res, h', μ', S', rfl, rfl, hv, hH, hM, hF⟩
    refine ⟨by rw [hv.bool_inv], hF.os, hF.tape, hF.output, hF.size, fun b hb => hF.blocks b hb (fun ⟨id, g, sz, n, e, f, base, h1, _⟩ => by simp at h1)⟩

/-- A tree that came in, as an argument. -/
theorem argV {H : Type} {enc : TypeId × Value → H} {w : World} {spare : Nat → Bool} {held : Bool} {cs : Array Value} {d : DataW H} {p : List MemPlace} (h : DataW.Trod enc Try.prog w 0 spare held 24 (.agg cs) d p) :
    ∃ v : V, v.Ok ∧ ARep (fun _ => none) [] (fun b => b < w.heap.size) w (.agg v.cells) (.agg cs) := by
  obtain ⟨fuel, hf⟩ := h
  obtain ⟨v, hv, hl, hc⟩ := prepV (S := fun b => b < w.heap.size) (fun b hb => hb) fuel _ _ hf
  simp only [Value.cells] at hl hc
  refine ⟨v, hv, cs, rfl, by simpa using hl, fun j pv hj => ?_⟩
  obtain ⟨u, hu, hr⟩ := hc j pv hj
  exact ⟨u, by simpa using hu, CRep.of_pure hr⟩

end Go.Am
