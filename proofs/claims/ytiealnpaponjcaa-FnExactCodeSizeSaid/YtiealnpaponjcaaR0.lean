/- Tools for trees: contracts in any heap; rows that came in. -/
import Derived.Test.YtiealnpaponjcaaQ9
set_option linter.unusedVariables false
set_option linter.unusedSimpArgs false
namespace Go.Am
open Go Go.RowKit Go.Proofs

/-- A size's contract in any heap. -/
theorem szF {P : Program} {f : FuncId} {args : List PV} {m : Int} {G : Prop} (hA : ACall P f args [] (SzR m G)) (h : List AObj) (hp : args.all pureA = true) :
    ACall P f args h (fun res h' => ∃ r : Int, res = .int .i64 r ∧ h' = h ∧ r ≤ m ∧ -1 ≤ r ∧ (0 ≤ r → G)) :=
  (hA.frame h hp).mono (by rintro _ _ ⟨_, _, ⟨r, rfl, rfl, r1, r2, r3⟩, rfl, rfl⟩; exact ⟨r, rfl, by simp, r1, r2, r3⟩)

theorem len1 {α : Type} {l : List α} (h : l.length = 1) : ∃ a, l = [a] := by
  rcases l with _ | ⟨a, _ | ⟨b, l⟩⟩ <;> simp at h
  exact ⟨a, rfl⟩
theorem len4 {α : Type} {l : List α} (h : l.length = 4) : ∃ a b c d, l = [a, b, c, d] := by
  rcases l with _ | ⟨a, _ | ⟨b, _ | ⟨c, _ | ⟨d, _ | ⟨e, l⟩⟩⟩⟩⟩ <;> simp at h
  exact ⟨a, b, c, d, rfl⟩
theorem len6 {α : Type} {l : List α} (h : l.length = 6) : ∃ a b c d e f, l = [a, b, c, d, e, f] := by
  rcases l with _ | ⟨a, _ | ⟨b, _ | ⟨c, _ | ⟨d, _ | ⟨e, _ | ⟨f, _ | ⟨g, l⟩⟩⟩⟩⟩⟩⟩ <;> simp at h
  exact ⟨a, b, c, d, e, f, rfl⟩
theorem len8 {α : Type} {l : List α} (h : l.length = 8) : ∃ a b c d e f g i, l = [a, b, c, d, e, f, g, i] := by
  rcases l with _ | ⟨a, _ | ⟨b, _ | ⟨c, _ | ⟨d, _ | ⟨e, _ | ⟨f, _ | ⟨g, _ | ⟨i, _ | ⟨j, l⟩⟩⟩⟩⟩⟩⟩⟩⟩ <;> simp at h
  exact ⟨a, b, c, d, e, f, g, i, rfl⟩

section
variable {P : Program} {H : Type} {enc : TypeId × Value → H} {w : World} {spare : Nat → Bool} {held : Bool} {S : Nat → Prop}

/-- A row that came in: each of its elements is a tree. -/
theorem prepRow {α : Type} (cells : α → List PV) (good : α → Prop) (dflt : α) {ts te : TypeId} {sz : Nat} (hu : P.underlying ts = some (.slice te)) (hc : P.cellsOf te = sz) (hpos : 0 < sz) (hlen : ∀ a, (cells a).length = sz)
    (hS : ∀ b, b < w.heap.size → S b) {fuel : Nat} (helt : ∀ n, n < fuel → ∀ (cs : List Value) (x : DataW H × List MemPlace), DataW.trod enc P w 0 spare held n te cs = some x → ∃ a, good a ∧ CellsRep S w (cells a) cs)
    {e : Value} {x : DataW H × List MemPlace} (h : DataW.trod enc P w 0 spare held fuel ts [e] = some x) :
    ∃ (n : Nat) (f : Nat → α), n ≤ 9223372036854775807 ∧ (∀ i, i < n → good (f i)) ∧ PRep S w (.slc sz n (fun i => cells (f i))) e := by
  rcases DataW.trod_slice hu h with ⟨e4, _⟩ | ⟨ad, len, cap, elems, rest, n', hn', e4, _, hb, hlc, hcap, hel, hget, _⟩
  · simp at e4
    subst e4
    exact ⟨0, fun _ => dflt, by omega, fun i hi => absurd hi (Nat.not_lt_zero _), .slc0 _ _ _ _⟩
  · simp at e4
    subst e4
    rw [hc] at hget
    have each : ∀ i, ∃ a : α, i < len → good a ∧ ∃ cs', w.cells? 0 (ad.add (i * sz)) sz = some cs' ∧ CellsRep S w (cells a) cs' := fun i => by
      by_cases hi : i < len
      · have hg := hget i hi
        rw [List.getElem?_eq_getElem (by omega)] at hg
        obtain ⟨cs', q1, q2⟩ := Option.bind_eq_some_iff.1 hg
        obtain ⟨a, g1, g2⟩ := helt n' (by omega) _ _ q2
        exact ⟨a, fun _ => ⟨g1, cs', q1, g2⟩⟩
      · exact ⟨dflt, fun h => absurd h hi⟩
    obtain ⟨kv, hkv⟩ := Classical.axiomOfChoice each
    rcases Nat.eq_zero_or_pos len with h00 | hposl
    · subst h00
      exact ⟨0, fun _ => dflt, by omega, fun i hi => absurd hi (Nat.not_lt_zero _), .slc0 _ _ _ _⟩
    · refine ⟨len, kv, by simp [maxLen] at hcap; omega, fun i hi => (hkv i hi).1, ?_⟩
      obtain ⟨bl, off, spot⟩ := ad
      have hcell : ∀ i, i < len → ∀ j pv, (cells (kv i))[j]? = some pv → ∃ u, w.cell? ((Addr.add ⟨bl, off, spot⟩ (i * sz)).add j) = some u ∧ PRep S w pv u := fun i hi j pv hj => by
        obtain ⟨_, cs', q1, q2, q3⟩ := hkv i hi
        obtain ⟨u, hu, hr⟩ := q3 j pv hj
        obtain ⟨_, _, r3⟩ := World.cells?_some q1
        have hj8 : j < sz := by have := (List.getElem?_eq_some_iff.1 hj).1; rw [hlen] at this; exact this
        exact ⟨u, by rw [r3 j hj8, hu], hr⟩
      have h0 : ∃ pv, (cells (kv 0))[0]? = some pv := ⟨_, List.getElem?_eq_getElem (by rw [hlen]; exact hpos)⟩
      obtain ⟨pv0, hpv0⟩ := h0
      obtain ⟨u0, hu0, _⟩ := hcell 0 hposl 0 _ hpv0
      have hspot : spot = none := by
        have := World.cell?_spot hu0
        simpa [Addr.add] using this
      subst hspot
      have hb' : bl < w.heap.size := by
        have := World.block_lt_of_cell? _ _ hu0
        simpa [Addr.add_lit] using this
      refine .slc sz len _ bl off cap (fun i j => (w.cell? ⟨bl, off + i * sz + j, none⟩).getD undef) (hS _ hb') (fun i hi => hlen _) hlc (fun i j pv hi hj => ?_) (fun i j pv hi hj => ?_)
      · obtain ⟨u, hu, _⟩ := hcell i hi j pv hj
        rw [Addr.add_lit, Addr.add_lit] at hu
        rw [hu]; rfl
      · obtain ⟨u, hu, hr⟩ := hcell i hi j pv hj
        rw [Addr.add_lit, Addr.add_lit] at hu
        rw [hu]; exact hr
end

/-- A text of a row that came in. -/
theorem prepStr {P : Program} {H : Type} {enc : TypeId × Value → H} {w : World} {spare : Nat → Bool} {held : Bool} {S : Nat → Prop} {t : TypeId} (hu : P.underlying t = some (.string)) (fuel : Nat) (cs : List Value) (x : DataW H × List MemPlace)
    (h : DataW.trod enc P w 0 spare held fuel t cs = some x) : ∃ l : List UInt8, l.length ≤ 9223372036854775807 ∧ CellsRep S w [.str l] cs := by
  obtain ⟨s2, e2, _, hs⟩ := DataW.trod_string hu h
  subst e2
  obtain ⟨⟨l⟩⟩ := s2
  refine ⟨l, by have h' : l.length ≤ maxLen := hs; simpa [maxLen] using h', rfl, fun j pv hj => ?_⟩
  match j with
  | 0 => simp at hj; subst hj; exact ⟨_, rfl, .str _⟩
  | j + 1 => simp at hj

end Go.Am
