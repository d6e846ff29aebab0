/- A value that came in is a tree. -/
import Derived.Test.YtiealnpaponjcaaQ5
import Derived.DataReads
import Derived.ChangeArms
set_option linter.unusedVariables false
set_option linter.unusedSimpArgs false
namespace Go.Am
open Go Go.RowKit Go.Proofs

def CellsRep (S : Nat → Prop) (w : World) (pvs : List PV) (cs : List Value) : Prop := cs.length = pvs.length ∧ ∀ (j : Nat) (pv : PV), pvs[j]? = some pv → ∃ u, cs[j]? = some u ∧ PRep S w pv u

theorem c3 : Try.prog.cellsOf 3 = 1 := by kernel_rfl
theorem c4 : Try.prog.cellsOf 4 = 1 := by kernel_rfl
theorem c9 : Try.prog.cellsOf 9 = 1 := by kernel_rfl
theorem c22 : Try.prog.cellsOf 22 = 1 := by kernel_rfl
theorem c24 : Try.prog.cellsOf 24 = 5 := by kernel_rfl
theorem c86 : Try.prog.cellsOf 86 = 3 := by kernel_rfl
theorem c88 : Try.prog.cellsOf 88 = 8 := by kernel_rfl

theorem len2 {α : Type} {l : List α} (h : l.length = 2) : ∃ a b, l = [a, b] := by
  rcases l with _ | ⟨a, _ | ⟨b, _ | ⟨c, l⟩⟩⟩ <;> simp at h
  exact ⟨a, b, rfl⟩
theorem len3 {α : Type} {l : List α} (h : l.length = 3) : ∃ a b c, l = [a, b, c] := by
  rcases l with _ | ⟨a, _ | ⟨b, _ | ⟨c, _ | ⟨d, l⟩⟩⟩⟩ <;> simp at h
  exact ⟨a, b, c, rfl⟩
theorem len5 {α : Type} {l : List α} (h : l.length = 5) : ∃ a b c d e, l = [a, b, c, d, e] := by
  rcases l with _ | ⟨a, _ | ⟨b, _ | ⟨c, _ | ⟨d, _ | ⟨e, _ | ⟨f, l⟩⟩⟩⟩⟩⟩ <;> simp at h
  exact ⟨a, b, c, d, e, rfl⟩

section
variable {H : Type} {enc : TypeId × Value → H} {w : World} {spare : Nat → Bool} {held : Bool} {S : Nat → Prop}

theorem prepK {fuel : Nat} {cs : List Value} {x : DataW H × List MemPlace} (h : DataW.trod enc Try.prog w 0 spare held fuel 86 cs = some x) :
    ∃ k : K, k.str.length ≤ 9223372036854775807 ∧ CellsRep S w k.cells cs := by
  obtain ⟨xs, n, _, rfl, hl, hlen, hf⟩ := DataW.trod_struct Try.underlying86 h
  have h0 := hf 0 _ rfl
  have h1 := hf 1 _ rfl
  have h2 := hf 2 _ rfl
  rw [c86] at hl
  obtain ⟨a, b, c, rfl⟩ := len3 hl
  obtain ⟨x0, x1, x2, rfl⟩ := len3 (show xs.length = 3 from hlen)
  ·
    ·
      simp [c3, c4, c9] at h0 h1 h2
      obtain ⟨b0, e0, _⟩ := DataW.trod_bool Try.underlying4 h0
      obtain ⟨n1, e1, _⟩ := DataW.trod_int Try.underlying3 h1
      obtain ⟨s2, e2, _, hs⟩ := DataW.trod_string Try.underlying9 h2
      simp at e0 e1 e2
      subst e0 e1 e2
      obtain ⟨⟨l⟩⟩ := s2
      refine ⟨⟨b0, n1, l⟩, by have h' : l.length ≤ maxLen := hs; simpa [maxLen] using h', rfl, fun j pv hj => ?_⟩
      match j with
      | 0 => simp at hj; subst hj; exact ⟨_, rfl, .bool _⟩
      | 1 => simp at hj; subst hj; exact ⟨_, rfl, .int _ _⟩
      | 2 => simp at hj; subst hj; exact ⟨_, rfl, .str _⟩
      | j + 3 => simp at hj

theorem prepV (hS : ∀ b, b < w.heap.size → S b) : ∀ (fuel : Nat) (cs : List Value) (x : DataW H × List MemPlace), DataW.trod enc Try.prog w 0 spare held fuel 24 cs = some x → ∃ v : V, v.Ok ∧ CellsRep S w v.cells cs := by
  intro fuel
  induction fuel using Nat.strongRecOn with
  | _ fuel ih =>
  intro cs x h
  obtain ⟨xs, n, hn, rfl, hl, hlen, hf⟩ := DataW.trod_struct Try.underlying24 h
  have h0 := hf 0 _ rfl
  have h1 := hf 1 _ rfl
  have h2 := hf 2 _ rfl
  have h3 := hf 3 _ rfl
  have h4 := hf 4 _ rfl
  rw [c24] at hl
  obtain ⟨a, b, c, d, e, rfl⟩ := len5 hl
  obtain ⟨x0, x1, x2, x3, x4, rfl⟩ := len5 (show xs.length = 5 from hlen)
  ·
    ·
      simp [c3, c9, c22] at h0 h1 h2 h3 h4
      obtain ⟨n0, e0, _⟩ := DataW.trod_int Try.underlying3 h0
      obtain ⟨n1, e1, _⟩ := DataW.trod_int Try.underlying3 h1
      obtain ⟨s2, e2, _, hs⟩ := DataW.trod_string Try.underlying9 h2
      obtain ⟨n3, e3, _⟩ := DataW.trod_int Try.underlying3 h3
      simp at e0 e1 e2 e3
      subst e0 e1 e2 e3
      obtain ⟨⟨l⟩⟩ := s2
      have fin : ∀ (m : Nat) (key : Nat → K) (val : Nat → V), m ≤ 9223372036854775807 → (∀ i, i < m → (key i).str.length ≤ 9223372036854775807 ∧ (val i).Ok) → PRep S w (.slc 8 m (fun i => ecells (key i) (val i))) e →
          ∃ v : V, v.Ok ∧ CellsRep S w v.cells [.int .i64 n0, .int .i64 n1, .string ⟨⟨l⟩⟩, .int .i64 n3, e] := fun m key val hm hall hp => by
        refine ⟨.mk n0 n1 l n3 m key val, ⟨by have h' : l.length ≤ maxLen := hs; simpa [maxLen] using h', hm, hall⟩, rfl, fun j pv hj => ?_⟩
        match j with
        | 0 => simp at hj; subst hj; exact ⟨_, rfl, .int _ _⟩
        | 1 => simp at hj; subst hj; exact ⟨_, rfl, .int _ _⟩
        | 2 => simp at hj; subst hj; exact ⟨_, rfl, .str _⟩
        | 3 => simp at hj; subst hj; exact ⟨_, rfl, .int _ _⟩
        | 4 => simp at hj; subst hj; exact ⟨_, rfl, hp⟩
        | j + 5 => simp at hj
      rcases DataW.trod_slice Try.underlying22 h4 with ⟨e4, _⟩ | ⟨ad, len, cap, elems, rest, n', hn', e4, _, hb, hlc, hcap, hel, hget, _⟩
      · simp at e4
        subst e4
        exact fin 0 (fun _ => ⟨false, 0, []⟩) (fun _ => .none) (by omega) (fun i hi => absurd hi (Nat.not_lt_zero _)) (.slc0 _ _ _ _)
      · simp at e4
        subst e4
        rw [c88] at hget
        have each : ∀ i, ∃ kv : K × V, i < len → (kv.1.str.length ≤ 9223372036854775807 ∧ kv.2.Ok) ∧ ∃ cs', w.cells? 0 (ad.add (i * 8)) 8 = some cs' ∧ CellsRep S w (ecells kv.1 kv.2) cs' := fun i => by
          by_cases hi : i < len
          · have hg := hget i hi
            rw [List.getElem?_eq_getElem (by omega)] at hg
            obtain ⟨cs', q1, q2⟩ := Option.bind_eq_some_iff.1 hg
            obtain ⟨ys, n2, hn2, hx, hl', hlen', hf'⟩ := DataW.trod_struct Try.underlying88 q2
            have g0 := hf' 0 _ rfl
            have g1 := hf' 1 _ rfl
            rw [c88] at hl'
            obtain ⟨y0, y1, rfl⟩ := len2 (show ys.length = 2 from hlen')
            ·
              simp [c86, c24] at g0 g1
              obtain ⟨k, k1, k2, k3⟩ := prepK (S := S) g0
              obtain ⟨v, v1, v2, v3⟩ := ih n2 (by omega) _ _ g1
              refine ⟨(k, v), fun _ => ⟨⟨k1, v1⟩, cs', q1, by simp [hl'], fun j pv hj => ?_⟩⟩
              by_cases hj3 : j < 3
              · obtain ⟨u, hu, hr⟩ := k3 j pv (by
                  have : j = 0 ∨ j = 1 ∨ j = 2 := by omega
                  rcases this with rfl | rfl | rfl <;> exact hj)
                rw [List.getElem?_take, if_pos hj3] at hu
                exact ⟨u, hu, hr⟩
              · obtain ⟨m, rfl⟩ : ∃ m, j = m + 3 := ⟨j - 3, by omega⟩
                have hj' : v.cells[m]? = some pv := hj
                have hm5 : m < 5 := by have := (List.getElem?_eq_some_iff.1 hj').1; simpa using this
                obtain ⟨u, hu, hr⟩ := v3 m pv hj'
                rw [List.getElem?_take, if_pos hm5, List.getElem?_drop] at hu
                exact ⟨u, by rw [← hu, Nat.add_comm], hr⟩
          · exact ⟨(⟨false, 0, []⟩, .none), fun h => absurd h hi⟩
        obtain ⟨kv, hkv⟩ := Classical.axiomOfChoice each
        rcases Nat.eq_zero_or_pos len with h00 | hpos
        · subst h00
          exact fin 0 (fun _ => ⟨false, 0, []⟩) (fun _ => .none) (by omega) (fun i hi => absurd hi (Nat.not_lt_zero _)) (.slc0 _ _ _ _)
        · refine fin len (fun i => (kv i).1) (fun i => (kv i).2) (by simp [maxLen] at hcap; omega) (fun i hi => (hkv i hi).1) ?_
          obtain ⟨bl, off, spot⟩ := ad
          have hcell : ∀ i, i < len → ∀ j pv, (ecells (kv i).1 (kv i).2)[j]? = some pv → ∃ u, w.cell? ((Addr.add ⟨bl, off, spot⟩ (i * 8)).add j) = some u ∧ PRep S w pv u := fun i hi j pv hj => by
            obtain ⟨_, cs', q1, q2, q3⟩ := hkv i hi
            obtain ⟨u, hu, hr⟩ := q3 j pv hj
            obtain ⟨_, _, r3⟩ := World.cells?_some q1
            have hj8 : j < 8 := by have := (List.getElem?_eq_some_iff.1 hj).1; simpa using this
            exact ⟨u, by rw [r3 j hj8, hu], hr⟩
          obtain ⟨u0, hu0, _⟩ := hcell 0 hpos 0 _ rfl
          have hspot : spot = none := by
            have := World.cell?_spot hu0
            simpa [Addr.add] using this
          subst hspot
          have hb' : bl < w.heap.size := by
            have := World.block_lt_of_cell? _ _ hu0
            simpa [Addr.add_lit] using this
          refine .slc 8 len _ bl off cap (fun i j => (w.cell? ⟨bl, off + i * 8 + j, none⟩).getD undef) (hS _ hb') (fun i hi => rfl) hlc (fun i j pv hi hj => ?_) (fun i j pv hi hj => ?_)
          · obtain ⟨u, hu, _⟩ := hcell i hi j pv hj
            rw [Addr.add_lit, Addr.add_lit] at hu
            rw [hu]; rfl
          · obtain ⟨u, hu, hr⟩ := hcell i hi j pv hj
            rw [Addr.add_lit, Addr.add_lit] at hu
            rw [hu]; exact hr
end
end Go.Am
