/- An instruction that came in. -/
import Derived.Test.YtiealnpaponjcaaQ8
set_option linter.unusedVariables false
set_option linter.unusedSimpArgs false
namespace Go.Am
open Go Go.RowKit Go.Proofs

theorem c37 : Try.prog.cellsOf 37 = 5 := by kernel_rfl

theorem argI {H : Type} {enc : TypeId × Value → H} {w : World} {spare : Nat → Bool} {held : Bool} {cs : Array Value} {d : DataW H} {p : List MemPlace} (h : DataW.Trod enc Try.prog w 0 spare held 37 (.agg cs) d p) :
    ∃ i : I, i.s.length ≤ 9223372036854775807 ∧ i.t.length ≤ 9223372036854775807 ∧ ARep (fun _ => none) [] (fun b => b < w.heap.size) w (.agg i.cells) (.agg cs) := by
  obtain ⟨fuel, hf⟩ := h
  obtain ⟨xs, n, hn, _, hl, hlen, hf⟩ := DataW.trod_struct Try.underlying37 hf
  have h0 := hf 0 _ rfl
  have h1 := hf 1 _ rfl
  have h2 := hf 2 _ rfl
  have h3 := hf 3 _ rfl
  have h4 := hf 4 _ rfl
  rw [c37] at hl
  obtain ⟨cs⟩ := cs
  replace hl : cs.length = 5 := hl
  simp only [Value.cells, Array.toList] at h0 h1 h2 h3 h4
  obtain ⟨a, b, c, d, e, rfl⟩ := len5 hl
  obtain ⟨x0, x1, x2, x3, x4, rfl⟩ := len5 (show xs.length = 5 from hlen)
  simp [c3, c9] at h0 h1 h2 h3 h4
  obtain ⟨n0, e0, _⟩ := DataW.trod_int Try.underlying3 h0
  obtain ⟨n1, e1, _⟩ := DataW.trod_int Try.underlying3 h1
  obtain ⟨n2, e2, _⟩ := DataW.trod_int Try.underlying3 h2
  obtain ⟨s3, e3, _, hs⟩ := DataW.trod_string Try.underlying9 h3
  obtain ⟨s4, e4, _, ht⟩ := DataW.trod_string Try.underlying9 h4
  simp at e0 e1 e2 e3 e4
  subst e0 e1 e2 e3 e4
  obtain ⟨⟨l⟩⟩ := s3
  obtain ⟨⟨m⟩⟩ := s4
  refine ⟨⟨n0, n1, n2, l, m⟩, by have h' : l.length ≤ maxLen := hs; simpa [maxLen] using h', by have h' : m.length ≤ maxLen := ht; simpa [maxLen] using h', _, rfl, rfl, fun j pv hj => ?_⟩
  match j with
  | 0 => simp at hj; subst hj; exact ⟨_, rfl, CRep.of_pure (.int _ _)⟩
  | 1 => simp at hj; subst hj; exact ⟨_, rfl, CRep.of_pure (.int _ _)⟩
  | 2 => simp at hj; subst hj; exact ⟨_, rfl, CRep.of_pure (.int _ _)⟩
  | 3 => simp at hj; subst hj; exact ⟨_, rfl, CRep.of_pure (.str _)⟩
  | 4 => simp at hj; subst hj; exact ⟨_, rfl, CRep.of_pure (.str _)⟩
  | j + 5 => simp at hj

end Go.Am
