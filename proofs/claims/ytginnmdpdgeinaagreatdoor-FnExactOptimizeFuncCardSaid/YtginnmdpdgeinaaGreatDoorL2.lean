/- Contracts of the library's functions on rows (slices.Sort, slices.Compact) and of strings.Compare, over the machine. -/
import Derived.Test.YtginnmdpdgeinaaGreatDoorL1
set_option linter.unusedVariables false
set_option linter.unusedSimpArgs false
namespace Go.Am
open Go Go.RowKit Go.Proofs
theorem turned_heap {w : World} {b off n : Nat} {d : Array Int} {os : Array Obj} {cur : Array Value} {e : TypeId} (hc : w.heap[b]? = some (.cells cur e (0, 0))) :
  (Sort.grow (Sort.putRow (Value.int .i64) (Sort.ahead w n) b off d) os).heap[b]? = some (.cells (Sort.putCells (Value.int .i64) off d cur) e (0, 0)) ∧
  (∀ b', b' < w.heap.size → b' ≠ b → (Sort.grow (Sort.putRow (Value.int .i64) (Sort.ahead w n) b off d) os).heap[b']? = w.heap[b']?) ∧
  w.heap.size ≤ (Sort.grow (Sort.putRow (Value.int .i64) (Sort.ahead w n) b off d) os).heap.size := by
 have hlt : b < w.heap.size := (Array.getElem?_eq_some_iff.1 hc).1
 unfold Sort.grow Sort.putRow Sort.mapBlock Sort.ahead
 refine ⟨?_, fun b' hb' hne => ?_, ?_⟩
 ·rw [Array.getElem?_append_left (by simpa using hlt), Array.getElem?_modify, if_pos rfl, hc]; rfl
 ·rw [Array.getElem?_append_left (by simpa using hb'), Array.getElem?_modify, if_neg (Ne.symm hne)]
 ·simp
theorem put_get {off : Nat} {d : Array Int} {cur : Array Value} {j : Nat} (hj : j < d.size) (hf : off + d.size ≤ cur.size) : (Sort.putCells (Value.int .i64) off d cur)[off + j]? = some (.int .i64 d[j]!) := by
 unfold Sort.putCells
 rw [Array.getElem?_mapIdx, Array.getElem?_eq_getElem (by omega)]
 simp only [Option.map_some]
 rw [if_pos (by omega), show off + j - off = j by omega]
theorem put_size {off : Nat} {d : Array Int} {cur : Array Value} : (Sort.putCells (Value.int .i64) off d cur).size = cur.size := by unfold Sort.putCells; simp
section
variable {μ : Mu} {S : Nat → Prop} {w : World} {l : List Int} {g : Nat}
theorem row_at {b base : Nat} {cur : Array Value} (hH : HeapRep μ [.row g 1 l.length 3 (row cI l)] S w) (hmu : μ 0 = some (b, base)) (hcp : CapOk w b 0) :
  ∃ cur : Array Value, w.heap[b]? = some (.cells cur 3 (0, 0)) ∧ base + l.length ≤ cur.size ∧ ∀ j, (hj : j < l.length) → cur[base + j]? = some (.int .i64 l[j]) := by
 obtain ⟨h1, h2⟩ := hH 0 g 1 l.length 3 (row cI l) rfl
 rw [hmu] at h2
 obtain ⟨cur, hc, hf, hcell⟩ := HeapRep.cells hcp h2
 refine ⟨cur, hc, by omega, fun j hj => ?_⟩
 obtain ⟨v, hv, hr⟩ := hcell j 0 (.int .i64 l[j]) hj (by rw [row_lt hj]; rfl)
 have : CRep μ _ S w (.int .i64 l[j]) v := hr
 cases (show PRep S w (.int .i64 l[j]) v from this)
 simpa using hv
theorem holds_of {b base : Nat} {cur : Array Value} (hc : w.heap[b]? = some (.cells cur 3 (0, 0))) (hcell : ∀ j, (hj : j < l.length) → cur[base + j]? = some (.int .i64 l[j])) : Sort.Holds (Value.int .i64) w b base l.toArray := fun j hj => by
 have hj' : j < l.length := by simpa using hj
 refine ⟨?_, ?_⟩
 ·rw [cell_of_row w b _ cur 3 (0, 0) hc, hcell j hj', getElem!_pos _ _ (by simpa using hj')]; simp
 ·unfold World.frozen?
  rw [hc]; simp
end
def srt (l : List Int) : List Int := l.mergeSort fun x y => decide (x ≤ y)
theorem srt_len (l : List Int) : (srt l).length = l.length := List.length_mergeSort _
def m_SortN (l : List Int) : Option (List Int) := if l.length < 4611686018427387904 then some (srt l) else none
theorem m_SortN_len {l r : List Int} (h : m_SortN l = some r) : r.length = l.length := by
 obtain ⟨_, rfl⟩ := ite_some h
 exact srt_len l
theorem ok_SortN {a0 : List Int} {r : List Int} {g1000 : Nat} (h : m_SortN a0 = some r) : ACall Tryz.prog 115 [.own 0 g1000 0 a0.length] [.row g1000 1 a0.length 3 (row cI a0)] (fun res h => res = .tup [] ∧ h = [.row g1000 1 r.length 3 (row cI r)]) := by
 obtain ⟨hn, rfl⟩ := ite_some h
 refine ⟨⟨_, _, Tryz.func115, rfl, by kernel_rfl⟩, fun w vs μ S hH hM hsz ha => ?_⟩
 obtain ⟨v, hv, hr⟩ := ha 0 _ rfl
 obtain rfl := args1 hsz hv
 have hr : OwnRep μ [.row g1000 1 a0.length 3 (row cI a0)] w 0 g1000 0 a0.length v := hr
 unfold OwnRep at hr
 obtain ⟨⟨sa, sl, sc, rfl⟩, hr⟩ := hr
 obtain ⟨_, hr⟩ : g1000 ≤ g1000 ∧ _ := hr
 obtain ⟨hle, hr⟩ := hr rfl
 have hc0 : Core μ [.row g1000 1 a0.length 3 (row cI a0)] S w := ⟨hH, hM⟩
 have nil0 : ∀ (p : Option Addr) (cap : Nat), a0 = [] → Calls Tryz.prog 115 #[.slice p 0 cap] w (fun e w' => ∃ (v : Value) (res : PV) (h' : List AObj) (μ' : Mu) (S' : Nat → Prop), e = .returned v ∧ (res = .tup [] ∧ h' = [.row g1000 1 (srt a0).length 3 (row cI (srt a0))]) ∧ VRep μ' h' S' w' res v ∧ HeapRep μ' h' S' w' ∧ MuOk μ' h' S' w' ∧ Fr μ [.row g1000 1 a0.length 3 (row cI a0)] S w μ' h' S' w') := fun p cap h0 => by
  subst h0
  refine (Tryz.slices_Sort_int_none p cap w).mono ?_
  rintro e w' ⟨rfl, rfl⟩
  have es : srt [] = [] := by unfold srt; simp
  rw [es]
  exact ⟨_, _, _, μ, S, rfl, ⟨rfl, rfl⟩, ⟨#[], rfl, rfl, fun j pv hj => by simp at hj⟩, hH, hM, Fr.refl⟩
 cases hmu : μ 0 with
 | none =>
  rw [hmu] at hr
  injection hr with e1 e2 e3
  subst e1 e2 e3
  have h0 := (hH 0 g1000 1 a0.length 3 _ rfl).2
  rw [hmu] at h0
  exact nil0 _ _ (List.eq_nil_of_length_eq_zero h0)
 | some p =>
  obtain ⟨b, base⟩ := p
  rw [hmu] at hr
  obtain ⟨ad, cap, hv2, hlc, had, hcap⟩ := hr
  injection hv2 with e1 e2 e3
  subst e1 e2 e3
  by_cases h0 : a0 = []
  ·have := nil0 (some ad) sc h0
   subst h0
   exact this
  have hpos : 0 < a0.length := List.length_pos_iff.2 h0
  obtain rfl := had (by omega)
  have hcp : CapOk w b 0 := by obtain ⟨c, e, q1, _⟩ := hcap; exact ⟨c, e, q1, Nat.zero_le _⟩
  obtain ⟨cur, hc, hf, hcell⟩ := row_at (cur := #[]) hH hmu hcp
  have hlt : b < w.heap.size := (Array.getElem?_eq_some_iff.1 hc).1
  have hb0 : base + 0 * 1 = base := by omega
  rw [hb0]
  refine (Tryz.slices_Sort_int b base sc a0 w (holds_of hc hcell) hlt hn).mono ?_
  rintro e w' ⟨rfl, n, os, rfl⟩
  obtain ⟨t1, t2, t3⟩ := turned_heap (n := n) (off := base) (d := (srt a0).toArray) (os := os) hc
  have hl := srt_len a0
  have hnm : ∀ b base, μ 0 = some (b, base) → ¬ MapBlk w b := fun b' base' hmu' => by
   rw [hmu] at hmu'
   injection hmu' with hmu'
   injection hmu' with q1 q2
   subst q1
   exact hcap.notMap
  have hcore := core_set (w1 := Sort.grow (Sort.putRow (Value.int .i64) (Sort.ahead w n) b base (srt a0).toArray) os) hc0 0 g1000 g1000 1 a0.length a0.length 3 _ (row cI (srt a0)) rfl b base (Sort.putCells (Value.int .i64) base (srt a0).toArray cur) (Nat.le_refl _) (fun _ => ⟨hmu, rfl⟩)
   (.inr ⟨base, cur, hmu, hc, put_size.symm⟩) t1 (by rw [put_size]; omega) (fun b' h1 h2 => t2 b' h1 h2) t3 rfl rfl rfl (fun i hi => by rw [row_lt (by omega)]; rfl) hnm
   (fun i j pv hi hj => by
    rw [row_lt (show i < (srt a0).length by omega)] at hj
    match j, hj with
    | 0, hj =>
     cases hj
     refine ⟨.int .i64 (srt a0)[i], ?_, PRep.int _ _⟩
     have := put_get (off := base) (d := (srt a0).toArray) (cur := cur) (j := i) (by simp; omega) (by simp; omega)
     rw [getElem!_pos _ _ (by simp; omega)] at this
     simpa using this
    | j + 1, hj => simp [cI] at hj)
  obtain ⟨hfr, hco⟩ := hcore
  refine ⟨_, .tup [], _, _, S, rfl, ⟨rfl, ?_⟩, ⟨#[], rfl, rfl, fun j pv hj => by simp at hj⟩, hco.heap, hco.ok, hfr⟩
  rw [hl]; rfl
theorem compact_le (l : List Int) : (Lib.compact l).length ≤ l.length := by
 unfold Lib.compact Lib.compactUpTo
 rw [List.length_map]
 have := List.length_filter_le (Lib.keeps l.toArray) (List.range l.length)
 simpa using this
def m_CompactN (l : List Int) : Option (List Int) := if l.length ≤ 9223372036854775807 then some (Lib.compact l) else none
theorem ok_CompactN {a0 : List Int} {r : List Int} {g1000 : Nat} (h : m_CompactN a0 = some r) : ACall Tryz.prog 116 [.own 0 g1000 0 a0.length] [.row g1000 1 a0.length 3 (row cI a0)] (fun res h => res = .own 1 0 0 r.length ∧ h = [.dead, .row 0 1 r.length 3 (row cI r)]) := by
 obtain ⟨hn, rfl⟩ := ite_some h
 refine ⟨⟨_, _, Tryz.func116, rfl, by kernel_rfl⟩, fun w vs μ S hH hM hsz ha => ?_⟩
 obtain ⟨v, hv, hr⟩ := ha 0 _ rfl
 obtain rfl := args1 hsz hv
 have hr : OwnRep μ [.row g1000 1 a0.length 3 (row cI a0)] w 0 g1000 0 a0.length v := hr
 have hrr := hr
 unfold OwnRep at hr
 obtain ⟨⟨sa, sl, sc, rfl⟩, hr⟩ := hr
 obtain ⟨_, hr⟩ : g1000 ≤ g1000 ∧ _ := hr
 obtain ⟨hle, hr⟩ := hr rfl
 have hc0 : Core μ [.row g1000 1 a0.length 3 (row cI a0)] S w := ⟨hH, hM⟩
 have fin : ∀ (w' : World) (μ1 : Mu) (q : List Int) (v : Value), Core μ1 [.row g1000 1 q.length 3 (row cI q)] S w' → Fr μ [.row g1000 1 a0.length 3 (row cI a0)] S w μ1 [.row g1000 1 q.length 3 (row cI q)] S w' → (Lib.compact a0).length ≤ q.length → (∀ i, i < (Lib.compact a0).length → row cI q i = row cI (Lib.compact a0) i) →
   OwnRep μ1 [.row g1000 1 q.length 3 (row cI q)] w' 0 g1000 0 (Lib.compact a0).length v →
   ∃ (u : Value) (res : PV) (h' : List AObj) (μ' : Mu) (S' : Nat → Prop), (Ending.returned v : Ending) = .returned u ∧ (res = .own 1 0 0 (Lib.compact a0).length ∧ h' = [.dead, .row 0 1 (Lib.compact a0).length 3 (row cI (Lib.compact a0))]) ∧ VRep μ' h' S' w' res u ∧ HeapRep μ' h' S' w' ∧ MuOk μ' h' S' w' ∧ Fr μ [.row g1000 1 a0.length 3 (row cI a0)] S w μ' h' S' w' := fun w' μ1 q v hco hfr hle he hov => by
  have hh : FzHeap [.row g1000 1 q.length 3 (row cI q)] [.dead, .row 0 1 (Lib.compact a0).length 3 (row cI (Lib.compact a0))] [0, 0] 1 0 [.dead, .row 0 1 (Lib.compact a0).length 3 (row cI (Lib.compact a0))] [0, 0] := by
   refine ⟨trivial, ⟨?_, trivial⟩⟩
   show (1 < 1 → _) ∧ _
   refine ⟨fun h => absurd h (by omega), rfl, .inr ⟨Nat.le_refl _, by decide, hle⟩, rfl, fun i hi => ?_⟩
   rw [he i hi]; exact fzl_pure (row_pure cI_pure i)
  have hk : nodupB (liveK [.dead, .row 0 1 (Lib.compact a0).length 3 (row cI (Lib.compact a0))] [0, 0]) = true := rfl
  obtain ⟨c1, _, _⟩ := fz_core hco hh hk
  have c2 := fz_fr (C := ⟨μ, [.row g1000 1 a0.length 3 (row cI a0)], S, w, 0⟩) hco hfr hh hk (Nat.le_succ 1)
  have c3 := (fz_sound hco hh (pv := .own 0 g1000 0 (Lib.compact a0).length) (pv' := .own 1 0 0 (Lib.compact a0).length) (Fz.o rfl rfl rfl)).1 v hov
  exact ⟨v, _, _, _, _, rfl, ⟨rfl, rfl⟩, c3, c1.heap, c1.ok, c2⟩
 have nil0 : ∀ (p : Option Addr) (cap : Nat), a0 = [] → OwnRep μ [.row g1000 1 a0.length 3 (row cI a0)] w 0 g1000 0 a0.length (.slice p 0 cap) → Calls Tryz.prog 116 #[.slice p 0 cap] w (fun e w' => ∃ (v : Value) (res : PV) (h' : List AObj) (μ' : Mu) (S' : Nat → Prop), e = .returned v ∧ (res = .own 1 0 0 (Lib.compact a0).length ∧ h' = [.dead, .row 0 1 (Lib.compact a0).length 3 (row cI (Lib.compact a0))]) ∧ VRep μ' h' S' w' res v ∧ HeapRep μ' h' S' w' ∧ MuOk μ' h' S' w' ∧ Fr μ [.row g1000 1 a0.length 3 (row cI a0)] S w μ' h' S' w') := fun p cap h0 ho => by
  refine (Tryz.slices_Compact_int_empty p cap w).mono ?_
  rintro e w' ⟨rfl, rfl⟩
  have hc : Lib.compact a0 = [] := by subst h0; rfl
  refine fin w' μ a0 _ hc0 Fr.refl (compact_le _) (fun i hi => by rw [hc] at hi; exact absurd hi (Nat.not_lt_zero _)) ?_
  rw [hc]; subst h0; exact ho
 cases hmu : μ 0 with
 | none =>
  rw [hmu] at hr
  injection hr with e1 e2 e3
  subst e1 e2 e3
  have h0 := (hH 0 g1000 1 a0.length 3 _ rfl).2
  rw [hmu] at h0
  exact nil0 _ _ (List.eq_nil_of_length_eq_zero h0) hrr
 | some p =>
  obtain ⟨b, base⟩ := p
  rw [hmu] at hr
  obtain ⟨ad, cap, hv2, hlc, had, hcap⟩ := hr
  injection hv2 with e1 e2 e3
  subst e1 e2 e3
  by_cases h0 : a0 = []
  ·have := nil0 (some ad) sc h0
   subst h0
   exact this hrr
  have hpos : 0 < a0.length := List.length_pos_iff.2 h0
  obtain rfl := had (by omega)
  have hcp : CapOk w b 0 := by obtain ⟨c, e, q1, _⟩ := hcap; exact ⟨c, e, q1, Nat.zero_le _⟩
  obtain ⟨cur, hc, hf, hcell⟩ := row_at (cur := #[]) hH hmu hcp
  have hb0 : base + 0 * 1 = base := by omega
  rw [hb0]
  refine (Tryz.slices_Compact_int b base sc a0 w (holds_of hc hcell) hn hlc).mono ?_
  rintro e w' ⟨rfl, n, rfl⟩
  have hcl := compact_le a0
  generalize hq : Lib.compact a0 ++ List.replicate (a0.length - (Lib.compact a0).length) 0 = q
  have hql : q.length = a0.length := by subst hq; simp; omega
  obtain ⟨t1, t2, t3⟩ := turned_heap (n := n) (off := base) (d := q.toArray) (os := #[]) hc
  rw [Sort.grow_empty] at t1 t2 t3
  have hnm : ∀ b base, μ 0 = some (b, base) → ¬ MapBlk w b := fun b' base' hmu' => by
   rw [hmu] at hmu'
   injection hmu' with hmu'
   injection hmu' with q1 q2
   subst q1
   exact hcap.notMap
  have hcore := core_set (w1 := Sort.putRow (Value.int .i64) (Sort.ahead w n) b base q.toArray) hc0 0 g1000 g1000 1 a0.length a0.length 3 _ (row cI q) rfl b base (Sort.putCells (Value.int .i64) base q.toArray cur) (Nat.le_refl _) (fun _ => ⟨hmu, rfl⟩)
   (.inr ⟨base, cur, hmu, hc, put_size.symm⟩) t1 (by rw [put_size]; omega) (fun b' h1 h2 => t2 b' h1 h2) t3 rfl rfl rfl (fun i hi => by rw [row_lt (by omega)]; rfl) hnm
   (fun i j pv hi hj => by
    rw [row_lt (show i < q.length by omega)] at hj
    match j, hj with
    | 0, hj =>
     cases hj
     refine ⟨.int .i64 q[i], ?_, PRep.int _ _⟩
     have := put_get (off := base) (d := q.toArray) (cur := cur) (j := i) (by simp; omega) (by simp; omega)
     rw [getElem!_pos _ _ (by simp; omega)] at this
     simpa using this
    | j + 1, hj => simp [cI] at hj)
  obtain ⟨hfr, hco⟩ := hcore
  have es : [AObj.row g1000 1 a0.length 3 (row cI a0)].set 0 (.row g1000 1 a0.length 3 (row cI q)) = [.row g1000 1 q.length 3 (row cI q)] := by rw [hql]; rfl
  rw [es] at hfr hco
  refine fin _ _ q _ hco hfr (by omega) (fun i hi => ?_) ?_
  ·rw [row_lt (by omega), row_lt hi]
   subst hq
   rw [List.getElem_append_left hi]
  ·refine ⟨⟨_, _, _, rfl⟩, ?_⟩
   show g1000 ≤ g1000 ∧ (g1000 = g1000 → _ ∧ _)
   refine ⟨Nat.le_refl _, fun _ => ⟨by omega, ?_⟩⟩
   rw [muSet_self]
   refine ⟨⟨b, base, none⟩, sc, rfl, by omega, fun _ => by rw [Nat.zero_mul, Nat.add_zero], Sort.putCells (Value.int .i64) base q.toArray cur, 3, t1, ?_⟩
   rw [put_size]
   obtain ⟨c, e, q1, q2⟩ := hcap
   rw [hc] at q1
   injection q1 with q1
   injection q1 with q1 _ _
   subst q1
   exact q2
def m_Compare (a b : Str) : Option Int := some (Lib.compareBytes a b)
theorem ok_Compare {a0 a1 : Str} {r : Int} (h : m_Compare a0 a1 = some r) : ACall Tryz.prog 156 [.str a0, .str a1] [] (fun res h => res = .int .i64 r ∧ h = []) := by
 cases h
 refine ACall.ext ⟨_, _, Tryz.func156, rfl, by kernel_rfl⟩ (fun w vs S ha hS hsz hj => ?_) rfl []
 obtain ⟨v, hv, hp⟩ := hj 0 _ rfl
 cases hp
 obtain ⟨v', hv', hp'⟩ := hj 1 _ rfl
 cases hp'
 obtain rfl := args2 hsz hv hv'
 refine (Tryz.strings_Compare ⟨⟨a0⟩⟩ ⟨⟨a1⟩⟩ w).mono ?_
 rintro e w' ⟨rfl, rfl⟩
 exact ⟨_, rfl, fun _ _ _ _ => .int _ _, Below.refl _ _⟩
end Go.Am
