/- What came in is a tree. -/
import Derived.Test.YtiealnpaponjcaaU3
set_option linter.unusedVariables false
set_option linter.unusedSimpArgs false
namespace Go.Am
open Go Go.RowKit Go.Proofs

section
variable {H : Type} {enc : TypeId × Value → H} {w : World} {spare : Nat → Bool} {held : Bool} {S : Nat → Prop}

theorem ct3 : Try.prog.cellsOf 3 = 1 := by kernel_rfl
theorem ct4 : Try.prog.cellsOf 4 = 1 := by kernel_rfl
theorem ct9 : Try.prog.cellsOf 9 = 1 := by kernel_rfl
theorem ct134 : Try.prog.cellsOf 134 = 2 := by kernel_rfl
theorem ct37 : Try.prog.cellsOf 37 = 5 := by kernel_rfl
theorem ct99 : Try.prog.cellsOf 99 = 6 := by kernel_rfl
theorem ct96 : Try.prog.cellsOf 96 = 1 := by kernel_rfl
theorem ct76 : Try.prog.cellsOf 76 = 1 := by kernel_rfl
theorem ct97 : Try.prog.cellsOf 97 = 1 := by kernel_rfl
theorem ct137 : Try.prog.cellsOf 137 = 8 := by kernel_rfl
theorem ct24 : Try.prog.cellsOf 24 = 5 := by kernel_rfl
theorem ct140 : Try.prog.cellsOf 140 = 5 := by kernel_rfl
theorem ct104 : Try.prog.cellsOf 104 = 4 := by kernel_rfl
theorem ct101 : Try.prog.cellsOf 101 = 1 := by kernel_rfl
theorem ct102 : Try.prog.cellsOf 102 = 1 := by kernel_rfl
theorem ct47 : Try.prog.cellsOf 47 = 2 := by kernel_rfl
theorem ct44 : Try.prog.cellsOf 44 = 1 := by kernel_rfl
theorem ct45 : Try.prog.cellsOf 45 = 1 := by kernel_rfl

theorem prepTParam (hS : ∀ b, b < w.heap.size → S b) (fuel : Nat) (cs : List Value) (x : DataW H × List MemPlace) (h : DataW.trod enc Try.prog w 0 spare held fuel 134 cs = some x) : ∃ a : TParam, a.Ok ∧ CellsRep S w a.cells cs := by
  obtain ⟨xs, n, hn, _, hl, hlen, hf⟩ := DataW.trod_struct Try.underlying134 h
  have h0 := hf 0 _ rfl
  have h1 := hf 1 _ rfl
  rw [ct134] at hl
  obtain ⟨z0, z1, rfl⟩ := len2 hl
  obtain ⟨x0, x1, rfl⟩ := len2 (show xs.length = 2 from hlen)
  simp [ct4, ct9] at h0 h1
  obtain ⟨s0, e0, _, q0⟩ := DataW.trod_string Try.underlying9 h0
  obtain rfl : z0 = _ := by simpa using e0
  obtain ⟨⟨v0⟩⟩ := s0
  replace q0 : v0.length ≤ 9223372036854775807 := by have h' : v0.length ≤ maxLen := q0; simpa [maxLen] using h'
  obtain ⟨v1, e1, _⟩ := DataW.trod_bool Try.underlying4 h1
  obtain rfl : z1 = _ := by simpa using e1
  refine ⟨⟨v0, v1⟩, ⟨q0⟩, rfl, fun j pv hj => ?_⟩
  match j with
  | 0 => cases hj; exact ⟨_, rfl, .str _⟩
  | 1 => cases hj; exact ⟨_, rfl, .bool _⟩
  | j + 2 => simp at hj

theorem prepTIns (hS : ∀ b, b < w.heap.size → S b) (fuel : Nat) (cs : List Value) (x : DataW H × List MemPlace) (h : DataW.trod enc Try.prog w 0 spare held fuel 37 cs = some x) : ∃ a : TIns, a.Ok ∧ CellsRep S w a.cells cs := by
  obtain ⟨xs, n, hn, _, hl, hlen, hf⟩ := DataW.trod_struct Try.underlying37 h
  have h0 := hf 0 _ rfl
  have h1 := hf 1 _ rfl
  have h2 := hf 2 _ rfl
  have h3 := hf 3 _ rfl
  have h4 := hf 4 _ rfl
  rw [ct37] at hl
  obtain ⟨z0, z1, z2, z3, z4, rfl⟩ := len5 hl
  obtain ⟨x0, x1, x2, x3, x4, rfl⟩ := len5 (show xs.length = 5 from hlen)
  simp [ct3, ct9] at h0 h1 h2 h3 h4
  obtain ⟨v0, e0, _⟩ := DataW.trod_int Try.underlying3 h0
  obtain rfl : z0 = _ := by simpa using e0
  obtain ⟨v1, e1, _⟩ := DataW.trod_int Try.underlying3 h1
  obtain rfl : z1 = _ := by simpa using e1
  obtain ⟨v2, e2, _⟩ := DataW.trod_int Try.underlying3 h2
  obtain rfl : z2 = _ := by simpa using e2
  obtain ⟨s3, e3, _, q3⟩ := DataW.trod_string Try.underlying9 h3
  obtain rfl : z3 = _ := by simpa using e3
  obtain ⟨⟨v3⟩⟩ := s3
  replace q3 : v3.length ≤ 9223372036854775807 := by have h' : v3.length ≤ maxLen := q3; simpa [maxLen] using h'
  obtain ⟨s4, e4, _, q4⟩ := DataW.trod_string Try.underlying9 h4
  obtain rfl : z4 = _ := by simpa using e4
  obtain ⟨⟨v4⟩⟩ := s4
  replace q4 : v4.length ≤ 9223372036854775807 := by have h' : v4.length ≤ maxLen := q4; simpa [maxLen] using h'
  refine ⟨⟨v0, v1, v2, v3, v4⟩, ⟨q3, q4⟩, rfl, fun j pv hj => ?_⟩
  match j with
  | 0 => cases hj; exact ⟨_, rfl, .int _ _⟩
  | 1 => cases hj; exact ⟨_, rfl, .int _ _⟩
  | 2 => cases hj; exact ⟨_, rfl, .int _ _⟩
  | 3 => cases hj; exact ⟨_, rfl, .str _⟩
  | 4 => cases hj; exact ⟨_, rfl, .str _⟩
  | j + 5 => simp at hj

theorem prepTFunc (hS : ∀ b, b < w.heap.size → S b) (fuel : Nat) (cs : List Value) (x : DataW H × List MemPlace) (h : DataW.trod enc Try.prog w 0 spare held fuel 99 cs = some x) : ∃ a : TFunc, a.Ok ∧ CellsRep S w a.cells cs := by
  obtain ⟨xs, n, hn, _, hl, hlen, hf⟩ := DataW.trod_struct Try.underlying99 h
  have h0 := hf 0 _ rfl
  have h1 := hf 1 _ rfl
  have h2 := hf 2 _ rfl
  have h3 := hf 3 _ rfl
  have h4 := hf 4 _ rfl
  have h5 := hf 5 _ rfl
  rw [ct99] at hl
  obtain ⟨z0, z1, z2, z3, z4, z5, rfl⟩ := len6 hl
  obtain ⟨x0, x1, x2, x3, x4, x5, rfl⟩ := len6 (show xs.length = 6 from hlen)
  simp [ct97, ct96, ct76, ct4, ct9] at h0 h1 h2 h3 h4 h5
  obtain ⟨s0, e0, _, q0⟩ := DataW.trod_string Try.underlying9 h0
  obtain rfl : z0 = _ := by simpa using e0
  obtain ⟨⟨v0⟩⟩ := s0
  replace q0 : v0.length ≤ 9223372036854775807 := by have h' : v0.length ≤ maxLen := q0; simpa [maxLen] using h'
  obtain ⟨v1, w1, q1, g1, p1⟩ := prepRow TParam.cells TParam.Ok TParam.zero Try.underlying96 ct134 (by decide) (fun _ => rfl) hS (fun n _ cs x h => prepTParam hS n cs x h) h1
  obtain ⟨v2, w2, q2, g2, p2⟩ := prepRow TParam.cells TParam.Ok TParam.zero Try.underlying96 ct134 (by decide) (fun _ => rfl) hS (fun n _ cs x h => prepTParam hS n cs x h) h2
  obtain ⟨v3, w3, q3, g3, p3⟩ := prepRow (fun l => [.str l]) (fun l => l.length ≤ 9223372036854775807) [] Try.underlying76 ct9 (by decide) (fun _ => rfl) hS (fun n _ cs x h => prepStr Try.underlying9 n cs x h) h3
  obtain ⟨v4, e4, _⟩ := DataW.trod_bool Try.underlying4 h4
  obtain rfl : z4 = _ := by simpa using e4
  obtain ⟨v5, w5, q5, g5, p5⟩ := prepRow TIns.cells TIns.Ok TIns.zero Try.underlying97 ct37 (by decide) (fun _ => rfl) hS (fun n _ cs x h => prepTIns hS n cs x h) h5
  refine ⟨⟨v0, v1, w1, v2, w2, v3, w3, v4, v5, w5⟩, ⟨q0, q1, g1, q2, g2, q3, g3, q5, g5⟩, rfl, fun j pv hj => ?_⟩
  match j with
  | 0 => cases hj; exact ⟨_, rfl, .str _⟩
  | 1 => cases hj; exact ⟨_, rfl, p1⟩
  | 2 => cases hj; exact ⟨_, rfl, p2⟩
  | 3 => cases hj; exact ⟨_, rfl, p3⟩
  | 4 => cases hj; exact ⟨_, rfl, .bool _⟩
  | 5 => cases hj; exact ⟨_, rfl, p5⟩
  | j + 6 => simp at hj

theorem prepTField (hS : ∀ b, b < w.heap.size → S b) (fuel : Nat) (cs : List Value) (x : DataW H × List MemPlace) (h : DataW.trod enc Try.prog w 0 spare held fuel 137 cs = some x) : ∃ a : TField, a.Ok ∧ CellsRep S w a.cells cs := by
  obtain ⟨xs, n, hn, _, hl, hlen, hf⟩ := DataW.trod_struct Try.underlying137 h
  have h0 := hf 0 _ rfl
  have h1 := hf 1 _ rfl
  have h2 := hf 2 _ rfl
  have h3 := hf 3 _ rfl
  rw [ct137] at hl
  obtain ⟨z0, z1, z2, z3, z4, z5, z6, z7, rfl⟩ := len8 hl
  obtain ⟨x0, x1, x2, x3, rfl⟩ := len4 (show xs.length = 4 from hlen)
  simp [ct24, ct4, ct9] at h0 h1 h2 h3
  obtain ⟨s0, e0, _, q0⟩ := DataW.trod_string Try.underlying9 h0
  obtain rfl : z0 = _ := by simpa using e0
  obtain ⟨⟨v0⟩⟩ := s0
  replace q0 : v0.length ≤ 9223372036854775807 := by have h' : v0.length ≤ maxLen := q0; simpa [maxLen] using h'
  obtain ⟨s1, e1, _, q1⟩ := DataW.trod_string Try.underlying9 h1
  obtain rfl : z1 = _ := by simpa using e1
  obtain ⟨⟨v1⟩⟩ := s1
  replace q1 : v1.length ≤ 9223372036854775807 := by have h' : v1.length ≤ maxLen := q1; simpa [maxLen] using h'
  obtain ⟨v2, e2, _⟩ := DataW.trod_bool Try.underlying4 h2
  obtain rfl : z2 = _ := by simpa using e2
  obtain ⟨v3, q3, p3⟩ := prepV hS _ _ _ h3
  refine ⟨⟨v0, v1, v2, v3⟩, ⟨q0, q1, q3⟩, rfl, fun j pv hj => ?_⟩
  match j with
  | 0 => cases hj; exact ⟨_, rfl, .str _⟩
  | 1 => cases hj; exact ⟨_, rfl, .str _⟩
  | 2 => cases hj; exact ⟨_, rfl, .bool _⟩
  | 3 => exact p3.2 0 pv hj
  | 4 => exact p3.2 1 pv hj
  | 5 => exact p3.2 2 pv hj
  | 6 => exact p3.2 3 pv hj
  | 7 => exact p3.2 4 pv hj
  | j + 8 => simp at hj

theorem prepTMethod (hS : ∀ b, b < w.heap.size → S b) (fuel : Nat) (cs : List Value) (x : DataW H × List MemPlace) (h : DataW.trod enc Try.prog w 0 spare held fuel 140 cs = some x) : ∃ a : TMethod, a.Ok ∧ CellsRep S w a.cells cs := by
  obtain ⟨xs, n, hn, _, hl, hlen, hf⟩ := DataW.trod_struct Try.underlying140 h
  have h0 := hf 0 _ rfl
  have h1 := hf 1 _ rfl
  have h2 := hf 2 _ rfl
  have h3 := hf 3 _ rfl
  have h4 := hf 4 _ rfl
  rw [ct140] at hl
  obtain ⟨z0, z1, z2, z3, z4, rfl⟩ := len5 hl
  obtain ⟨x0, x1, x2, x3, x4, rfl⟩ := len5 (show xs.length = 5 from hlen)
  simp [ct4, ct9] at h0 h1 h2 h3 h4
  obtain ⟨s0, e0, _, q0⟩ := DataW.trod_string Try.underlying9 h0
  obtain rfl : z0 = _ := by simpa using e0
  obtain ⟨⟨v0⟩⟩ := s0
  replace q0 : v0.length ≤ 9223372036854775807 := by have h' : v0.length ≤ maxLen := q0; simpa [maxLen] using h'
  obtain ⟨s1, e1, _, q1⟩ := DataW.trod_string Try.underlying9 h1
  obtain rfl : z1 = _ := by simpa using e1
  obtain ⟨⟨v1⟩⟩ := s1
  replace q1 : v1.length ≤ 9223372036854775807 := by have h' : v1.length ≤ maxLen := q1; simpa [maxLen] using h'
  obtain ⟨s2, e2, _, q2⟩ := DataW.trod_string Try.underlying9 h2
  obtain rfl : z2 = _ := by simpa using e2
  obtain ⟨⟨v2⟩⟩ := s2
  replace q2 : v2.length ≤ 9223372036854775807 := by have h' : v2.length ≤ maxLen := q2; simpa [maxLen] using h'
  obtain ⟨v3, e3, _⟩ := DataW.trod_bool Try.underlying4 h3
  obtain rfl : z3 = _ := by simpa using e3
  obtain ⟨v4, e4, _⟩ := DataW.trod_bool Try.underlying4 h4
  obtain rfl : z4 = _ := by simpa using e4
  refine ⟨⟨v0, v1, v2, v3, v4⟩, ⟨q0, q1, q2⟩, rfl, fun j pv hj => ?_⟩
  match j with
  | 0 => cases hj; exact ⟨_, rfl, .str _⟩
  | 1 => cases hj; exact ⟨_, rfl, .str _⟩
  | 2 => cases hj; exact ⟨_, rfl, .str _⟩
  | 3 => cases hj; exact ⟨_, rfl, .bool _⟩
  | 4 => cases hj; exact ⟨_, rfl, .bool _⟩
  | j + 5 => simp at hj

theorem prepTClass (hS : ∀ b, b < w.heap.size → S b) (fuel : Nat) (cs : List Value) (x : DataW H × List MemPlace) (h : DataW.trod enc Try.prog w 0 spare held fuel 104 cs = some x) : ∃ a : TClass, a.Ok ∧ CellsRep S w a.cells cs := by
  obtain ⟨xs, n, hn, _, hl, hlen, hf⟩ := DataW.trod_struct Try.underlying104 h
  have h0 := hf 0 _ rfl
  have h1 := hf 1 _ rfl
  have h2 := hf 2 _ rfl
  have h3 := hf 3 _ rfl
  rw [ct104] at hl
  obtain ⟨z0, z1, z2, z3, rfl⟩ := len4 hl
  obtain ⟨x0, x1, x2, x3, rfl⟩ := len4 (show xs.length = 4 from hlen)
  simp [ct101, ct102, ct9] at h0 h1 h2 h3
  obtain ⟨s0, e0, _, q0⟩ := DataW.trod_string Try.underlying9 h0
  obtain rfl : z0 = _ := by simpa using e0
  obtain ⟨⟨v0⟩⟩ := s0
  replace q0 : v0.length ≤ 9223372036854775807 := by have h' : v0.length ≤ maxLen := q0; simpa [maxLen] using h'
  obtain ⟨s1, e1, _, q1⟩ := DataW.trod_string Try.underlying9 h1
  obtain rfl : z1 = _ := by simpa using e1
  obtain ⟨⟨v1⟩⟩ := s1
  replace q1 : v1.length ≤ 9223372036854775807 := by have h' : v1.length ≤ maxLen := q1; simpa [maxLen] using h'
  obtain ⟨v2, w2, q2, g2, p2⟩ := prepRow TField.cells TField.Ok TField.zero Try.underlying101 ct137 (by decide) (fun _ => rfl) hS (fun n _ cs x h => prepTField hS n cs x h) h2
  obtain ⟨v3, w3, q3, g3, p3⟩ := prepRow TMethod.cells TMethod.Ok TMethod.zero Try.underlying102 ct140 (by decide) (fun _ => rfl) hS (fun n _ cs x h => prepTMethod hS n cs x h) h3
  refine ⟨⟨v0, v1, v2, w2, v3, w3⟩, ⟨q0, q1, q2, g2, q3, g3⟩, rfl, fun j pv hj => ?_⟩
  match j with
  | 0 => cases hj; exact ⟨_, rfl, .str _⟩
  | 1 => cases hj; exact ⟨_, rfl, .str _⟩
  | 2 => cases hj; exact ⟨_, rfl, p2⟩
  | 3 => cases hj; exact ⟨_, rfl, p3⟩
  | j + 4 => simp at hj

theorem prepTProgram (hS : ∀ b, b < w.heap.size → S b) (fuel : Nat) (cs : List Value) (x : DataW H × List MemPlace) (h : DataW.trod enc Try.prog w 0 spare held fuel 47 cs = some x) : ∃ a : TProgram, a.Ok ∧ CellsRep S w a.cells cs := by
  obtain ⟨xs, n, hn, _, hl, hlen, hf⟩ := DataW.trod_struct Try.underlying47 h
  have h0 := hf 0 _ rfl
  have h1 := hf 1 _ rfl
  rw [ct47] at hl
  obtain ⟨z0, z1, rfl⟩ := len2 hl
  obtain ⟨x0, x1, rfl⟩ := len2 (show xs.length = 2 from hlen)
  simp [ct45, ct44] at h0 h1
  obtain ⟨v0, w0, q0, g0, p0⟩ := prepRow TFunc.cells TFunc.Ok TFunc.zero Try.underlying44 ct99 (by decide) (fun _ => rfl) hS (fun n _ cs x h => prepTFunc hS n cs x h) h0
  obtain ⟨v1, w1, q1, g1, p1⟩ := prepRow TClass.cells TClass.Ok TClass.zero Try.underlying45 ct104 (by decide) (fun _ => rfl) hS (fun n _ cs x h => prepTClass hS n cs x h) h1
  refine ⟨⟨v0, w0, v1, w1⟩, ⟨q0, g0, q1, g1⟩, rfl, fun j pv hj => ?_⟩
  match j with
  | 0 => cases hj; exact ⟨_, rfl, p0⟩
  | 1 => cases hj; exact ⟨_, rfl, p1⟩
  | j + 2 => simp at hj

end
end Go.Am
