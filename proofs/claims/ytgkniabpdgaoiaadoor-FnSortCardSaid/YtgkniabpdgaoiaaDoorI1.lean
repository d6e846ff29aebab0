/- Rows that are copied onto rows, as blocks lie; a row that is handed back for another one. -/
import Derived.Test.YtgkniabpdgaoiaaDoorL1
import Derived.Test.YtgkniabpdgaoiaaDoorBmQ
import Derived.Laws.IdiomCopy
import Derived.Lib.Overlaps
set_option linter.unusedVariables false
set_option linter.unusedSimpArgs false
namespace Go.Am
open Go Go.RowKit Go.Proofs
def spl (cur : Array Value) (o : Nat) (cs : List Value) : Array Value := (cur.toList.take o ++ cs ++ cur.toList.drop (o + cs.length)).toArray
theorem spl_size {cur : Array Value} {o : Nat} {cs : List Value} (h : o + cs.length ≤ cur.size) : (spl cur o cs).size = cur.size := by unfold spl; simp; omega
theorem spl_get {cur : Array Value} {o : Nat} {cs : List Value} (h : o + cs.length ≤ cur.size) (k : Nat) : (spl cur o cs)[k]? = if o ≤ k ∧ k < o + cs.length then cs[k - o]? else cur[k]? := by
 unfold spl
 rw [List.getElem?_toArray, splice_get cur.toList cs o k (by simpa using h)]
 simp only [Array.getElem?_toList]
theorem run_copy_rows {P : Program} (w : World) (t tx ty e : TypeId) (inf : TypeInfo) (ht : P.underlying t = some (.slice e)) (hi : P.info? e = some inf) (b o dl dc b2 o2 sl sc : Nat) (cur : Array Value) (e0 : TypeId)
  (hb : w.heap[b]? = some (.cells cur e0 (0, 0))) (cs : List Value) (hcs : cs.length = Nat.min sl dl * inf.size) (hsrc : ∀ j v, cs[j]? = some v → w.cell? ((⟨b2, o2, none⟩ : Addr).add j) = some v) (hfit : o + cs.length ≤ cur.size) (h1 : ∀ v ∈ cs, v.oneCell' = true) :
  (Builtin.copy_ #[t, tx] ty #[.slice (some ⟨b, o, none⟩) dl dc, .slice (some ⟨b2, o2, none⟩) sl sc]).run P w = .ok (goInt (Nat.min sl dl)) (w.setRow b (spl cur o cs)) := by
 have hl := run_loadCells_list (P := P) w ⟨b2, o2, none⟩ cs hsrc
 have hst := run_storeCells_at P b o e0 cs 0 cur w hb (by simpa using hfit) h1
 rw [Nat.add_zero] at hst
 rw [hcs] at hl
 unfold spl
 simp [Builtin.copy_, run_underlying ht, Builtin.lenOf, Builtin.firstCells, sizeOf, typeInfo, hi, hl, hst]
theorem shape_of {w : World} {b : Nat} {cur : Array Value} {e : TypeId} (h : w.heap[b]? = some (.cells cur e (0, 0))) : w.shape? b = some (e, cur.size) := by unfold World.shape?; rw [h]
theorem frozen_of {w : World} {b k : Nat} {cur : Array Value} {e : TypeId} (h : w.heap[b]? = some (.cells cur e (0, 0))) : w.frozen? ⟨b, k, none⟩ = false := by unfold World.frozen?; rw [h]; simp
section
variable {μ : Mu} {S : Nat → Prop} {w : World} {α : Type} {c : α → List PV} [Pur c]
theorem ins_done {g g1 sz : Nat} {e : TypeId} {a0 a2 r : List α} (hc0 : Core μ [.row g sz a0.length e (row c a0), .row g1 sz a2.length e (row c a2)] S w) (w' : World) (b1 o1 c1 : Nat) (cur1 : Array Value)
  (hb : w.heap.size ≤ b1 ∨ ∃ base cur, μ 0 = some (b1, base) ∧ w.heap[b1]? = some (.cells cur e (0, 0)) ∧ cur.size = cur1.size)
  (hw : w'.heap[b1]? = some (.cells cur1 e (0, 0))) (hfit : o1 + c1 * sz ≤ cur1.size) (hrc : r.length ≤ c1) (hpos : 0 < r.length)
  (hsame : ∀ b, b < w.heap.size → b ≠ b1 → w'.heap[b]? = w.heap[b]?) (hsize : w.heap.size ≤ w'.heap.size) (hos : w'.os = w.os) (htape : w'.tape = w.tape) (hout : w'.output = w.output)
  (hl : ∀ x : α, (c x).length = sz) (hnm : ∀ b base, μ 0 = some (b, base) → ¬ MapBlk w b)
  (hcell : ∀ (i j : Nat) (pv : PV), i < r.length → (row c r i)[j]? = some pv → ∃ v : Value, cur1[o1 + i * sz + j]? = some v ∧ CRep μ [.row g sz a0.length e (row c a0), .row g1 sz a2.length e (row c a2)] S w pv v) :
  ∃ (u : Value) (res : PV) (h' : List AObj) (μ' : Mu) (S' : Nat → Prop), (Ending.returned (.slice (some ⟨b1, o1, none⟩) r.length c1) : Ending) = .returned u ∧
   (res = .own 2 0 0 r.length ∧ h' = [.dead, .dead, .row 0 sz r.length e (row c r)]) ∧ VRep μ' h' S' w' res u ∧ HeapRep μ' h' S' w' ∧ MuOk μ' h' S' w' ∧ Fr μ [.row g sz a0.length e (row c a0), .row g1 sz a2.length e (row c a2)] S w μ' h' S' w' := by
 have hfit2 : o1 + r.length * sz ≤ cur1.size := by have := Nat.mul_le_mul_right sz hrc; omega
 obtain ⟨hfr, hco⟩ := core_set (w1 := w') hc0 0 g (g + 1) sz a0.length r.length e _ (row c r) rfl b1 o1 cur1 (Nat.le_succ g) (fun h => absurd h (by omega)) hb hw hfit2 hsame hsize hos htape hout
  (fun i hi => by rw [row_lt hi]; exact hl _) hnm hcell
 have es : [AObj.row g sz a0.length e (row c a0), .row g1 sz a2.length e (row c a2)].set 0 (.row (g + 1) sz r.length e (row c r)) = [.row (g + 1) sz r.length e (row c r), .row g1 sz a2.length e (row c a2)] := rfl
 rw [es] at hfr hco
 have hh : FzHeap [.row (g + 1) sz r.length e (row c r), .row g1 sz a2.length e (row c a2)] [.dead, .dead, .row 0 sz r.length e (row c r)] [0, 1, 0] 2 0 [.dead, .dead, .row 0 sz r.length e (row c r)] [0, 1, 0] := by
  refine ⟨trivial, trivial, ⟨?_, trivial⟩⟩
  show (2 < 2 → _) ∧ _
  exact ⟨fun h => absurd h (by omega), rfl, .inl rfl, rfl, fun i hi => fzl_pure (row_pure Pur.pure i)⟩
 have hk : nodupB (liveK [.dead, .dead, .row 0 sz r.length e (row c r)] [0, 1, 0]) = true := rfl
 obtain ⟨q1, _, _⟩ := fz_core hco hh hk
 have q2 := fz_fr (C := ⟨μ, [.row g sz a0.length e (row c a0), .row g1 sz a2.length e (row c a2)], S, w, 0⟩) hco hfr hh hk (show 2 ≤ 3 by omega)
 have hov : OwnRep (muSet μ 0 (some (b1, o1))) [.row (g + 1) sz r.length e (row c r), .row g1 sz a2.length e (row c a2)] w' 0 (g + 1) 0 r.length (.slice (some ⟨b1, o1, none⟩) r.length c1) := by
  refine ⟨⟨_, _, _, rfl⟩, ?_⟩
  show g + 1 ≤ g + 1 ∧ (g + 1 = g + 1 → _ ∧ _)
  refine ⟨Nat.le_refl _, fun _ => ⟨by omega, ?_⟩⟩
  rw [muSet_self]
  exact ⟨⟨b1, o1, none⟩, c1, rfl, hrc, fun _ => by rw [Nat.zero_mul, Nat.add_zero], cur1, e, hw, by rw [Nat.zero_add]; exact hfit⟩
 have hvr : VRep (muSet μ 0 (some (b1, o1))) [.row (g + 1) sz r.length e (row c r), .row g1 sz a2.length e (row c a2)] S w' (.own 0 (g + 1) 0 r.length) (.slice (some ⟨b1, o1, none⟩) r.length c1) := hov
 have q3 := (fz_sound hco hh (pv := .own 0 (g + 1) 0 r.length) (pv' := .own 2 0 0 r.length) (Fz.o rfl rfl rfl)).2.2 _ hvr
 exact ⟨_, _, _, _, _, rfl, ⟨rfl, rfl⟩, q3, q1.heap, q1.ok, q2⟩
end
end Go.Am
