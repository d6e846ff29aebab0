/- What came in is a tree; the end of a law. -/
import Derived.Test.YtginnmdpdgeinaaGreatDoorTT
import Derived.DataReads
import Derived.ChangeArms
set_option linter.unusedVariables false
set_option linter.unusedSimpArgs false
namespace Go.Am
open Go Go.RowKit Go.Proofs
def CellsRep (S : Nat → Prop) (w : World) (pvs : List PV) (cs : List Value) : Prop := cs.length = pvs.length ∧ ∀ (j : Nat) (pv : PV), pvs[j]? = some pv → ∃ u, cs[j]? = some u ∧ PRep S w pv u
theorem len2 {α : Type} {l : List α} (h : l.length = 2) : ∃ a b, l = [a, b] := by
 rcases l with _ | ⟨a, _ | ⟨b, _ | ⟨c, l⟩⟩⟩ <;> simp at h
 exact ⟨a, b, rfl⟩
theorem len5 {α : Type} {l : List α} (h : l.length = 5) : ∃ a b c d e, l = [a, b, c, d, e] := by
 rcases l with _ | ⟨a, _ | ⟨b, _ | ⟨c, _ | ⟨d, _ | ⟨e, _ | ⟨f, l⟩⟩⟩⟩⟩⟩ <;> simp at h
 exact ⟨a, b, c, d, e, rfl⟩
theorem len6 {α : Type} {l : List α} (h : l.length = 6) : ∃ a b c d e f, l = [a, b, c, d, e, f] := by
 rcases l with _ | ⟨a, _ | ⟨b, _ | ⟨c, _ | ⟨d, _ | ⟨e, _ | ⟨f, _ | ⟨g, l⟩⟩⟩⟩⟩⟩⟩ <;> simp at h
 exact ⟨a, b, c, d, e, f, rfl⟩
section
variable {P : Program} {H : Type} {enc : TypeId × Value → H} {w : World} {spare : Nat → Bool} {held : Bool} {S : Nat → Prop}
theorem prepRow {α : Type} (cells : α → List PV) (good : α → Prop) (dflt : α) {ts te : TypeId} {sz : Nat} (hu : P.underlying ts = some (.slice te)) (hc : P.cellsOf te = sz) (hpos : 0 < sz) (hlen : ∀ a, (cells a).length = sz)
  (hS : ∀ b, b < w.heap.size → S b) {fuel : Nat} (helt : ∀ n, n < fuel → ∀ (cs : List Value) (x : DataW H × List MemPlace), DataW.trod enc P w 0 spare held n te cs = some x → ∃ a, good a ∧ CellsRep S w (cells a) cs)
  {e : Value} {x : DataW H × List MemPlace} (h : DataW.trod enc P w 0 spare held fuel ts [e] = some x) :
  ∃ (n : Nat) (f : Nat → α), n ≤ 9223372036854775807 ∧ (∀ i, i < n → good (f i)) ∧ PRep S w (.slc sz n (fun i => cells (f i))) e := by
 rcases DataW.trod_slice hu h with ⟨e4, _⟩ | ⟨ad, len, cap, elems, rest, n', hn', e4, _, hb, hlc, hcap, hel, hget, _⟩
 ·simp at e4
  subst e4
  exact ⟨0, fun _ => dflt, by omega, fun i hi => absurd hi (Nat.not_lt_zero _), .slc0 _ _ _ _⟩
 ·simp at e4
  subst e4
  rw [hc] at hget
  have each : ∀ i, ∃ a : α, i < len → good a ∧ ∃ cs', w.cells? 0 (ad.add (i * sz)) sz = some cs' ∧ CellsRep S w (cells a) cs' := fun i => by
   by_cases hi : i < len
   ·have hg := hget i hi
    rw [List.getElem?_eq_getElem (by omega)] at hg
    obtain ⟨cs', q1, q2⟩ := Option.bind_eq_some_iff.1 hg
    obtain ⟨a, g1, g2⟩ := helt n' (by omega) _ _ q2
    exact ⟨a, fun _ => ⟨g1, cs', q1, g2⟩⟩
   ·exact ⟨dflt, fun h => absurd h hi⟩
  obtain ⟨kv, hkv⟩ := Classical.axiomOfChoice each
  rcases Nat.eq_zero_or_pos len with h00 | hposl
  ·subst h00
   exact ⟨0, fun _ => dflt, by omega, fun i hi => absurd hi (Nat.not_lt_zero _), .slc0 _ _ _ _⟩
  ·refine ⟨len, kv, by simp [maxLen] at hcap; omega, fun i hi => (hkv i hi).1, ?_⟩
   obtain ⟨bl, off, spot⟩ := ad
   have hcell : ∀ i, i < len → ∀ j pv, (cells (kv i))[j]? = some pv → ∃ u, w.cell? ((Addr.add ⟨bl, off, spot⟩ (i * sz)).add j) = some u ∧ PRep S w pv u := fun i hi j pv hj => by
    obtain ⟨_, cs', q1, q2, q3⟩ := hkv i hi
    obtain ⟨u, hu, hr⟩ := q3 j pv hj
    obtain ⟨_, _, r3⟩ := World.cells?_some q1
    have hj8 : j < sz := by have := (List.getElem?_eq_some_iff.1 hj).1; rw [hlen] at this; exact this
    exact ⟨u, by rw [r3 j hj8, hu], hr⟩
   have h0 : ∃ pv, (cells (kv 0))[0]? = some pv := ⟨_, List.getElem?_eq_getElem (by rw [hlen]; exact hpos)⟩
   obtain ⟨pv0, hpv0⟩ := h0
   obtain ⟨u0, hu0, _⟩ := hcell 0 hposl 0 _ hpv0
   have hspot : spot = none := by
    have := World.cell?_spot hu0
    simpa [Addr.add] using this
   subst hspot
   have hb' : bl < w.heap.size := by
    have := World.block_lt_of_cell? _ _ hu0
    simpa [Addr.add_lit] using this
   refine .slc sz len _ bl off cap (fun i j => (w.cell? ⟨bl, off + i * sz + j, none⟩).getD undef) (hS _ hb') (fun i hi => hlen _) hlc (fun i j pv hi hj => ?_) (fun i j pv hi hj => ?_)
   ·obtain ⟨u, hu, _⟩ := hcell i hi j pv hj
    rw [Addr.add_lit, Addr.add_lit] at hu
    rw [hu]; rfl
   ·obtain ⟨u, hu, hr⟩ := hcell i hi j pv hj
    rw [Addr.add_lit, Addr.add_lit] at hu
    rw [hu]; exact hr
end
theorem prepStr {P : Program} {H : Type} {enc : TypeId × Value → H} {w : World} {spare : Nat → Bool} {held : Bool} {S : Nat → Prop} {t : TypeId} (hu : P.underlying t = some (.string)) (fuel : Nat) (cs : List Value) (x : DataW H × List MemPlace)
  (h : DataW.trod enc P w 0 spare held fuel t cs = some x) : ∃ l : List UInt8, l.length ≤ 9223372036854775807 ∧ CellsRep S w [.str l] cs := by
 obtain ⟨s2, e2, _, hs⟩ := DataW.trod_string hu h
 subst e2
 obtain ⟨⟨l⟩⟩ := s2
 refine ⟨l, by have h' : l.length ≤ maxLen := hs; simpa [maxLen] using h', rfl, fun j pv hj => ?_⟩
 match j with
 | 0 => simp at hj; subst hj; exact ⟨_, rfl, .str _⟩
 | j + 1 => simp at hj
theorem argT {H : Type} {enc : TypeId × Value → H} {w : World} {spare : Nat → Bool} {held : Bool} {α : Type} (cells : α → List PV) (good : α → Prop) {P : Program} {t : TypeId}
  (prep : ∀ (fuel : Nat) (cs : List Value) (x : DataW H × List MemPlace), DataW.trod enc P w 0 spare held fuel t cs = some x → ∃ a, good a ∧ CellsRep (fun b => b < w.heap.size) w (cells a) cs)
  {cs : Array Value} {d : DataW H} {p : List MemPlace} (h : DataW.Trod enc P w 0 spare held t (.agg cs) d p) : ∃ a, good a ∧ ARep (fun _ => none) [] (fun b => b < w.heap.size) w (.agg (cells a)) (.agg cs) := by
 obtain ⟨fuel, hf⟩ := h
 obtain ⟨a, ha, hl, hc⟩ := prep fuel _ _ hf
 refine ⟨a, ha, cs, rfl, by have h' : cs.toList.length = _ := hl; simpa using h', fun j pv hj => ?_⟩
 obtain ⟨u, hu, hr⟩ := hc j pv hj
 exact ⟨u, by have h' : cs.toList[j]? = some u := hu; simpa using h', CRep.of_pure hr⟩
theorem prep_congr {S : Nat → Prop} {w : World} {sz n : Nat} {f g : Nat → List PV} {v : Value} (h : PRep S w (.slc sz n f) v) (e : ∀ i, i < n → f i = g i) : PRep S w (.slc sz n g) v := by
 cases h with
 | slc0 => exact .slc0 _ _ _ _
 | slc _ _ _ b off c vf hS hlen hc hcell hrep =>
  exact .slc sz n g b off c vf hS (fun i hi => by rw [← e i hi]; exact hlen i hi) hc (fun i j pv hi hj => hcell i j pv hi (by rw [e i hi]; exact hj)) (fun i j pv hi hj => hrep i j pv hi (by rw [e i hi]; exact hj))
theorem prepL {P : Program} {H : Type} {enc : TypeId × Value → H} {w : World} {spare : Nat → Bool} {held : Bool} {S : Nat → Prop} {α : Type} (cells : α → List PV) (good : α → Prop) (dflt : α) (g : List α → Nat → α) {ts te : TypeId} {sz : Nat} (hu : P.underlying ts = some (.slice te)) (hc : P.cellsOf te = sz) (hpos : 0 < sz) (hlen : ∀ a, (cells a).length = sz) (hg : ∀ (l : List α) i, g l i = l.getD i dflt)
  (hS : ∀ b, b < w.heap.size → S b) {fuel : Nat} (helt : ∀ n, n < fuel → ∀ (cs : List Value) (x : DataW H × List MemPlace), DataW.trod enc P w 0 spare held n te cs = some x → ∃ a, good a ∧ CellsRep S w (cells a) cs)
  {e : Value} {x : DataW H × List MemPlace} (h : DataW.trod enc P w 0 spare held fuel ts [e] = some x) :
  ∃ l : List α, l.length ≤ 9223372036854775807 ∧ (∀ i, i < l.length → good (g l i)) ∧ PRep S w (sl sz cells l) e := by
 obtain ⟨n, f, h1, h2, h3⟩ := prepRow cells good dflt hu hc hpos hlen hS helt h
 have hl : ((List.range n).map f).length = n := by simp
 have hi : ∀ i, i < n → ((List.range n).map f)[i]? = some (f i) := fun i hi => by simp [hi]
 refine ⟨(List.range n).map f, by rw [hl]; exact h1, fun i hlt => ?_, ?_⟩
 ·rw [hl] at hlt
  rw [hg, List.getD_eq_getElem?_getD, hi i hlt]
  exact h2 i hlt
 ·show PRep S w (.slc sz ((List.range n).map f).length (row cells _)) e
  rw [hl]
  exact prep_congr h3 (fun i hlt => (row_some (hi i hlt)).symm)
theorem law_endA {P : Program} {f : FuncId} {args : List PV} {vs : Array Value} {w : World} (hamb : amb (fun b => b < w.heap.size) w) (hA : ACall P f args [] (fun res _ => res = .bool true)) (hsz : vs.size = args.length)
  (ha : ∀ (j : Nat) (pv : PV), args[j]? = some pv → ∃ v, vs[j]? = some v ∧ ARep (fun _ => none) [] (fun b => b < w.heap.size) w pv v) :
  Calls P f vs w fun e w' => e = .returned (.bool true) ∧ Below w.heap.size w w' := by
 refine (hA.2 w vs (fun _ => none) (fun b => b < w.heap.size) (fun id g sz n e f hid => by simp at hid) ⟨fun b ⟨id, g, sz, n, e, f, base, h1, _⟩ => by simp at h1, fun b ⟨id, g, sz, n, e, f, base, h1, _⟩ => by simp at h1, fun b hb => hb, fun i j g sz n e f g' sz' n' e' f' b o o' hi => by simp at hi, hamb⟩ hsz ha).mono ?_
 rintro e w' ⟨v, res, h', μ', S', rfl, rfl, hv, hH, hM, hF⟩
 refine ⟨by rw [hv.bool_inv], hF.os, hF.tape, hF.output, hF.size, fun b hb => hF.blocks b hb (fun ⟨id, g, sz, n, e, f, base, h1, _⟩ => by simp at h1)⟩
section
variable {H : Type} {enc : TypeId × Value → H} {w : World} {spare : Nat → Bool} {held : Bool} {S : Nat → Prop}
theorem ct3 : Tryz.prog.cellsOf 3 = 1 := by kernel_rfl
theorem ct4 : Tryz.prog.cellsOf 4 = 1 := by kernel_rfl
theorem ct9 : Tryz.prog.cellsOf 9 = 1 := by kernel_rfl
theorem ct64 : Tryz.prog.cellsOf 64 = 2 := by kernel_rfl
theorem ct66 : Tryz.prog.cellsOf 66 = 5 := by kernel_rfl
theorem ct26 : Tryz.prog.cellsOf 26 = 6 := by kernel_rfl
theorem ct22 : Tryz.prog.cellsOf 22 = 1 := by kernel_rfl
theorem ct23 : Tryz.prog.cellsOf 23 = 1 := by kernel_rfl
theorem ct24 : Tryz.prog.cellsOf 24 = 1 := by kernel_rfl
theorem prepTParam (hS : ∀ b, b < w.heap.size → S b) (fuel : Nat) (cs : List Value) (x : DataW H × List MemPlace) (h : DataW.trod enc Tryz.prog w 0 spare held fuel 64 cs = some x) : ∃ a : TParam, a.Ok ∧ CellsRep S w a.cells cs := by
 obtain ⟨xs, n, hn, _, hl, hlen, hf⟩ := DataW.trod_struct Tryz.underlying64 h
 have h0 := hf 0 _ rfl
 have h1 := hf 1 _ rfl
 rw [ct64] at hl
 obtain ⟨z0, z1, rfl⟩ := len2 hl
 obtain ⟨x0, x1, rfl⟩ := len2 (show xs.length = 2 from hlen)
 simp [ct4, ct9] at h0 h1
 obtain ⟨s0, e0, _, q0⟩ := DataW.trod_string Tryz.underlying9 h0
 obtain rfl : z0 = _ := by simpa using e0
 obtain ⟨⟨v0⟩⟩ := s0
 replace q0 : v0.length ≤ 9223372036854775807 := by have h' : v0.length ≤ maxLen := q0; simpa [maxLen] using h'
 obtain ⟨v1, e1, _⟩ := DataW.trod_bool Tryz.underlying4 h1
 obtain rfl : z1 = _ := by simpa using e1
 refine ⟨⟨v0, v1⟩, q0, rfl, fun j pv hj => ?_⟩
 match j with
 | 0 => cases hj; exact ⟨_, rfl, .str _⟩
 | 1 => cases hj; exact ⟨_, rfl, .bool _⟩
 | j + 2 => simp [TParam.cells] at hj
theorem prepTIns (hS : ∀ b, b < w.heap.size → S b) (fuel : Nat) (cs : List Value) (x : DataW H × List MemPlace) (h : DataW.trod enc Tryz.prog w 0 spare held fuel 66 cs = some x) : ∃ a : TIns, a.Ok ∧ CellsRep S w a.cells cs := by
 obtain ⟨xs, n, hn, _, hl, hlen, hf⟩ := DataW.trod_struct Tryz.underlying66 h
 have h0 := hf 0 _ rfl
 have h1 := hf 1 _ rfl
 have h2 := hf 2 _ rfl
 have h3 := hf 3 _ rfl
 have h4 := hf 4 _ rfl
 rw [ct66] at hl
 obtain ⟨z0, z1, z2, z3, z4, rfl⟩ := len5 hl
 obtain ⟨x0, x1, x2, x3, x4, rfl⟩ := len5 (show xs.length = 5 from hlen)
 simp [ct3, ct9] at h0 h1 h2 h3 h4
 obtain ⟨v0, e0, _⟩ := DataW.trod_int Tryz.underlying3 h0
 obtain rfl : z0 = _ := by simpa using e0
 obtain ⟨v1, e1, _⟩ := DataW.trod_int Tryz.underlying3 h1
 obtain rfl : z1 = _ := by simpa using e1
 obtain ⟨v2, e2, _⟩ := DataW.trod_int Tryz.underlying3 h2
 obtain rfl : z2 = _ := by simpa using e2
 obtain ⟨s3, e3, _, q3⟩ := DataW.trod_string Tryz.underlying9 h3
 obtain rfl : z3 = _ := by simpa using e3
 obtain ⟨⟨v3⟩⟩ := s3
 replace q3 : v3.length ≤ 9223372036854775807 := by have h' : v3.length ≤ maxLen := q3; simpa [maxLen] using h'
 obtain ⟨s4, e4, _, q4⟩ := DataW.trod_string Tryz.underlying9 h4
 obtain rfl : z4 = _ := by simpa using e4
 obtain ⟨⟨v4⟩⟩ := s4
 replace q4 : v4.length ≤ 9223372036854775807 := by have h' : v4.length ≤ maxLen := q4; simpa [maxLen] using h'
 refine ⟨⟨v0, v1, v2, v3, v4⟩, ⟨q3, q4⟩, rfl, fun j pv hj => ?_⟩
 match j with
 | 0 => cases hj; exact ⟨_, rfl, .int _ _⟩
 | 1 => cases hj; exact ⟨_, rfl, .int _ _⟩
 | 2 => cases hj; exact ⟨_, rfl, .int _ _⟩
 | 3 => cases hj; exact ⟨_, rfl, .str _⟩
 | 4 => cases hj; exact ⟨_, rfl, .str _⟩
 | j + 5 => simp [TIns.cells] at hj
theorem prepTFunc (hS : ∀ b, b < w.heap.size → S b) (fuel : Nat) (cs : List Value) (x : DataW H × List MemPlace) (h : DataW.trod enc Tryz.prog w 0 spare held fuel 26 cs = some x) : ∃ a : TFunc, a.Ok ∧ CellsRep S w a.cells cs := by
 obtain ⟨xs, n, hn, _, hl, hlen, hf⟩ := DataW.trod_struct Tryz.underlying26 h
 have h0 := hf 0 _ rfl
 have h1 := hf 1 _ rfl
 have h2 := hf 2 _ rfl
 have h3 := hf 3 _ rfl
 have h4 := hf 4 _ rfl
 have h5 := hf 5 _ rfl
 rw [ct26] at hl
 obtain ⟨z0, z1, z2, z3, z4, z5, rfl⟩ := len6 hl
 obtain ⟨x0, x1, x2, x3, x4, x5, rfl⟩ := len6 (show xs.length = 6 from hlen)
 simp [ct24, ct22, ct23, ct4, ct9] at h0 h1 h2 h3 h4 h5
 obtain ⟨s0, e0, _, q0⟩ := DataW.trod_string Tryz.underlying9 h0
 obtain rfl : z0 = _ := by simpa using e0
 obtain ⟨⟨v0⟩⟩ := s0
 replace q0 : v0.length ≤ 9223372036854775807 := by have h' : v0.length ≤ maxLen := q0; simpa [maxLen] using h'
 obtain ⟨v1, q1, g1, p1⟩ := prepL TParam.cells TParam.Ok default gP Tryz.underlying22 ct64 (by decide) (fun _ => rfl) (fun _ _ => rfl) hS (fun n _ cs x h => prepTParam hS n cs x h) h1
 obtain ⟨v2, q2, g2, p2⟩ := prepL TParam.cells TParam.Ok default gP Tryz.underlying22 ct64 (by decide) (fun _ => rfl) (fun _ _ => rfl) hS (fun n _ cs x h => prepTParam hS n cs x h) h2
 obtain ⟨v3, q3, g3, p3⟩ := prepL cS (fun l => l.length ≤ 9223372036854775807) [] gS Tryz.underlying23 ct9 (by decide) (fun _ => rfl) (fun _ _ => rfl) hS (fun n _ cs x h => prepStr Tryz.underlying9 n cs x h) h3
 obtain ⟨v4, e4, _⟩ := DataW.trod_bool Tryz.underlying4 h4
 obtain rfl : z4 = _ := by simpa using e4
 obtain ⟨v5, q5, g5, p5⟩ := prepL TIns.cells TIns.Ok default gC Tryz.underlying24 ct66 (by decide) (fun _ => rfl) (fun _ _ => rfl) hS (fun n _ cs x h => prepTIns hS n cs x h) h5
 refine ⟨⟨v0, v1, v2, v3, v4, v5⟩, ⟨q0, q1, g1, q2, g2, q3, g3, q5, g5⟩, rfl, fun j pv hj => ?_⟩
 match j with
 | 0 => cases hj; exact ⟨_, rfl, .str _⟩
 | 1 => cases hj; exact ⟨_, rfl, p1⟩
 | 2 => cases hj; exact ⟨_, rfl, p2⟩
 | 3 => cases hj; exact ⟨_, rfl, p3⟩
 | 4 => cases hj; exact ⟨_, rfl, .bool _⟩
 | 5 => cases hj; exact ⟨_, rfl, p5⟩
 | j + 6 => simp [TFunc.cells] at hj
end
end Go.Am
