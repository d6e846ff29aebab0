/- The operations that make objects, turn them, or call. -/
import Derived.Test.YtgkniabpdgaoiaaDoorBmH
set_option linter.unusedVariables false
set_option linter.unusedSimpArgs false
namespace Go.Am
open Go Go.RowKit
section
variable {P : Program} {T : Tab} {μ : Mu} {h : List AObj} {S : Nat → Prop} {w : World}
def Acts (P : Program) (o : Oper) (a : Act) (μ : Mu) (h : List AObj) (S : Nat → Prop) (w : World) (K : PV → List AObj → Prop) : Prop :=
 ∀ (next : Act → World → Prop) (Q : Exit → Act → World → Prop),
  (∀ v val h' μ' S' w', K v h' → VRep μ' h' S' w' v val → Core μ' h' S' w' → Fr μ h S w μ' h' S' w' → next (a.put o.dst val) w') → o.wp P a w next Q
theorem Acts.rows {o : Oper} {a : Act} {K : PV → List AObj → Prop} (hA : Acts P o a μ h S w (fun v h1 => ∃ h2, HEq' h1 h2 ∧ K v h2)) : Acts P o a μ h S w K := by
 intro next Q hn
 refine hA next Q fun v val h' μ' S' w' ⟨h2, he, hK⟩ hv hc hf => ?_
 exact hn v val h2 μ' S' w' hK (he.vrep hv) (he.core hc) (he.fr hf)
theorem Acts.of_still {o : Oper} {a : Act} {K : PV → List AObj → Prop} (hc : Core μ h S w) (hs : Stills P o a μ h S w (fun v => K v h)) : Acts P o a μ h S w K := by
 obtain ⟨v, val, hK, hv, hr⟩ := hs
 intro next Q hn
 unfold Oper.wp
 rw [hr w (Agree.refl w)]
 exact hn v val h μ S w hK hv hc Fr.refl
theorem Acts.of_value {o : Oper} {a : Act} {K : PV → List AObj → Prop} {v : PV} {val : Value} {h' : List AObj} {μ' : Mu} {S' : Nat → Prop} {w' : World} (hr : (execOp a.eval o).run P w = .ok (.value val) w') (hK : K v h') (hv : VRep μ' h' S' w' v val)
  (hc : Core μ' h' S' w') (hf : Fr μ h S w μ' h' S' w') : Acts P o a μ h S w K := by
 intro next Q hn
 unfold Oper.wp
 rw [hr]
 exact hn v val h' μ' S' w' hK hv hc hf
theorem Acts.of_skip {o : Oper} {a : Act} {K : PV → List AObj → Prop} {h' : List AObj} {μ' : Mu} {S' : Nat → Prop} {w' : World} (hr : (execOp a.eval o).run P w = .ok .skip w') (hK : K .junk h')
  (hc : Core μ' h' S' w') (hf : Fr μ h S w μ' h' S' w') : Acts P o a μ h S w K := by
 intro next Q hn
 unfold Oper.wp
 rw [hr]
 exact hn .junk undef h' μ' S' w' hK trivial hc hf
theorem size_ty (hT : TabOk P T) {t : Nat} {n : Nat} (hn : tySize (T.get t) = n) (hpos : 0 < n) : ∃ i, P.info? t = some i ∧ i.size = n := by
 cases hti : T.get t with
 | struct sz fl z =>
  obtain ⟨fs, i, _, hi, hsz, _⟩ := hT.struct _ _ _ _ hti
  rw [hti] at hn
  exact ⟨i, hi, hsz.trans hn⟩
 | other => rw [hti] at hn; simp [tySize] at hn; omega
 | _ =>
  rw [hti] at hn
  have h1 : n = 1 := hn.symm
  subst h1
  refine hT.one t ?_ ?_
  ·rw [hti]; rfl
  ·intro sz fl z hh; rw [hti] at hh; cases hh
variable {a : Act} {env : Env} {K : PV → List AObj → Prop} {dst : Option Tmp} {ty : TypeId} {pos : String} {after : Array Edge} {guard : Option (Nat × Bool)}
theorem splice_get (cur vs : List Value) (o q : Nat) (hl : o + vs.length ≤ cur.length) :
  (cur.take o ++ vs ++ cur.drop (o + vs.length))[q]? = if o ≤ q ∧ q < o + vs.length then vs[q - o]? else cur[q]? := by
 have h1 : (cur.take o).length = o := by simp; omega
 by_cases ha : q < o
 ·rw [if_neg (by omega), List.append_assoc, List.getElem?_append_left (by omega), List.getElem?_take, if_pos ha]
 ·by_cases hb : q < o + vs.length
  ·rw [if_pos ⟨by omega, hb⟩, List.getElem?_append_left (by simp; omega), List.getElem?_append_right (by omega), h1]
  ·rw [if_neg (by omega), List.getElem?_append_right (by simp; omega), List.getElem?_drop]
   congr 1
   simp
   omega
theorem store_sound (hT : TabOk P T) (hc : Core μ h S w) (ht : ∀ t, VRep μ h S w (env t) (a.tmps.getD t undef)) (t : Nat) (ad x : Operand) (hp : pop P T (.store t ad x) env h K) :
  Acts P ⟨dst, .store t ad x, ty, pos, after, guard⟩ a μ h S w K := by
 have hx := ev_rep ht x
 have had := ev_rep ht ad
 simp only [pop] at hp
 split at hp
 ·rename_i id gen i off hea
  rw [hea] at had
  split at hp
  ·rename_i g sz n e f hg
   obtain ⟨rfl, hp⟩ := hp
   replace hp := guardB_elim (force_elim hp)
   obtain ⟨hcond, hK⟩ := hp
   simp only [Bool.and_eq_true] at hcond
   obtain ⟨⟨⟨hst, hpos⟩, hty⟩, hle⟩ := hcond
   have hpos := Nat.le_of_ble_eq_true hpos
   have hty := Nat.eq_of_beq_eq_true hty
   have hle := Nat.le_of_ble_eq_true hle
   have hh := hget_some hg
   have hr := had.optr_inv
   unfold OptrRep at hr
   rw [hh] at hr
   obtain ⟨_, _, hr⟩ := hr
   obtain ⟨hin, b, base, hmu, hcp, hav⟩ := hr rfl
   obtain ⟨hl, hcells⟩ := hc.heap id g sz n e f hh
   rw [hmu] at hcells
   obtain ⟨cur, hcur, hfit, hcell⟩ := HeapRep.cells hcp hcells
   obtain ⟨hvl, hvc⟩ := storable_cells hst hx
   generalize hcs : cellsOf (ev env x) = cs at *
   generalize hvs : (a.eval x).cells.toList = vs at *
   have hpos : 0 < cs.length := by omega
   obtain ⟨inf, hinf, hisz⟩ := size_ty hT hty hpos
   have hmul : (i + 1) * sz ≤ n * sz := Nat.mul_le_mul_right _ hin
   rw [Nat.add_mul] at hmul
   have hrun : (storeCells ⟨b, base + i * sz + off, none⟩ vs 0).run P w = .ok () (w.setRow b (cur.toList.take (base + i * sz + off + 0) ++ vs ++ cur.toList.drop (base + i * sz + off + 0 + vs.length)).toArray) :=
    run_storeCells_at P b (base + i * sz + off) e vs 0 cur w hcur (by omega) (fun v hv => by
     obtain ⟨j, hj, rfl⟩ := List.mem_iff_getElem.1 hv
     have hjc : j < cs.length := by omega
     obtain ⟨u, hu, hr⟩ := hvc j cs[j] (List.getElem?_eq_getElem hjc)
     rw [List.getElem?_eq_getElem hj] at hu
     injection hu with hu
     rw [hu]
     exact hr.one)
   rw [Nat.add_zero] at hrun
   have hlist : ∀ k, (fset f i (listSet (f i) off cs) k) = if k = i then listSet (f i) off cs else f k := fun k => by
    unfold fset
    by_cases hk : k = i
    ·subst hk; simp
    ·have : Nat.beq k i = false := by
      cases hb : Nat.beq k i with
      | true => exact (hk (Nat.eq_of_beq_eq_true hb)).elim
      | false => rfl
     simp [this, hk]
   have hcore := core_set (w1 := w.setRow b (cur.toList.take (base + i * sz + off) ++ vs ++ cur.toList.drop (base + i * sz + off + vs.length)).toArray) hc id g g sz n n e f (fset f i (listSet (f i) off cs)) hh b base
    (cur.toList.take (base + i * sz + off) ++ vs ++ cur.toList.drop (base + i * sz + off + vs.length)).toArray (Nat.le_refl _) (fun _ => ⟨hmu, rfl⟩)
    (.inr ⟨base, cur, hmu, hcur, by simp; omega⟩) (setRow_heap w b cur _ e _ hcur) (by simp; omega)
    (fun b' _ hne => setRow_other w b b' _ hne) (by simp) rfl rfl rfl
    (fun k hk => by
     rw [hlist]
     split
     ·rename_i hki; subst hki; rw [listSet_length]; exact hl _ hk
     ·exact hl k hk)
    (fun b' base' hm' => by rw [hmu] at hm'; injection hm' with hm'; injection hm' with h1 _; subst h1; exact hcp.notMap)
    (fun k j pv hk hj => by
     have hjs : j < sz := by
      have h1 := (List.getElem?_eq_some_iff.1 hj).1
      rw [hlist] at h1
      split at h1
      ·rw [listSet_length, hl i hin] at h1; exact h1
      ·rw [hl k hk] at h1; exact h1
     have hidx : (cur.toList.take (base + i * sz + off) ++ vs ++ cur.toList.drop (base + i * sz + off + vs.length)).toArray[base + k * sz + j]? = if base + i * sz + off ≤ base + k * sz + j ∧ base + k * sz + j < base + i * sz + off + vs.length then vs[base + k * sz + j - (base + i * sz + off)]? else cur[base + k * sz + j]? := by
      have hsp := splice_get cur.toList vs (base + i * sz + off) (base + k * sz + j) (by simp; omega)
      rw [List.getElem?_toArray, hsp]
      simp only [Array.getElem?_toList]
     rw [hidx]
     rw [hlist] at hj
     by_cases hki : k = i
     ·subst hki
      rw [if_pos rfl, listSet_get cs (f k) off j (by rw [hl k hk]; exact hle)] at hj
      by_cases hr : off ≤ j ∧ j < off + cs.length
      ·rw [if_pos hr] at hj
       rw [if_pos (by omega)]
       obtain ⟨u, hu, hrep⟩ := hvc _ _ hj
       exact ⟨u, by rw [← hu]; congr 1; omega, hrep⟩
      ·rw [if_neg hr] at hj
       rw [if_neg (by omega)]
       exact hcell k j pv hk hj
     ·rw [if_neg hki] at hj
      have hout : ¬ (base + i * sz + off ≤ base + k * sz + j ∧ base + k * sz + j < base + i * sz + off + vs.length) := by
       rcases Nat.lt_or_gt_of_ne hki with hlt | hgt
       ·have : (k + 1) * sz ≤ i * sz := Nat.mul_le_mul_right _ hlt
        rw [Nat.add_mul] at this
        omega
       ·have : (i + 1) * sz ≤ k * sz := Nat.mul_le_mul_right _ hgt
        rw [Nat.add_mul] at this
        omega
      rw [if_neg hout]
      exact hcell k j pv hk hj)
   obtain ⟨hfr, hco⟩ := hcore
   obtain ⟨_, f', rfl, hf', hK⟩ := hK
   refine Acts.rows (Acts.of_skip ?_ ⟨_, HEq'.set _ _ _ _ _ _ _ _ hf', hK⟩ hco hfr)
   have e1 : (execOp a.eval ⟨dst, .store t ad x, ty, pos, after, guard⟩) = (do Instr.storeAt t (a.eval ad) (a.eval x); pure .skip : Sem Next) := rfl
   rw [e1, hav]
   have hsz : ¬ (a.eval x).cells.size ≠ inf.size := by
    rw [hisz]
    simp only [ne_eq, Decidable.not_not]
    rw [← hvl, ← hvs]
    simp
   simp only [Instr.storeAt, Instr.sureAddr, storeVar, Sem.run_bind, Sem.run_pure, Result.andThen, size_of hinf, if_neg hsz, hvs, hrun]
  ·exact hp.elim
 ·exact hp.elim
theorem madeCells_get (z : Array Value) (n q : Nat) (hq : q < n) (hz : 0 < z.size) : (madeCells z n)[q]? = z[q % z.size]? := by
 have h1 : q % z.size < z.size := Nat.mod_lt _ hz
 simp [madeCells, hq, h1]
theorem mod_row (i j sz : Nat) (hj : j < sz) : (i * sz + j) % sz = j := by
 rw [Nat.mul_comm, Nat.mul_add_mod]; exact Nat.mod_eq_of_lt hj
theorem alloc_agree (w : World) (o : Obj) : Agree w (w.alloc o) :=
 ⟨fun b hb => Below.heap_alloc w o b hb, by simp, rfl, rfl, rfl⟩
theorem make_sound (hT : TabOk P T) (hc : Core μ h S w) (ht : ∀ t, VRep μ h S w (env t) (a.tmps.getD t undef)) (t : Nat) (l c : Operand) (hp : pop P T (.makeSlice t l c) env h K) :
  Acts P ⟨dst, .makeSlice t l c, ty, pos, after, guard⟩ a μ h S w K := by
 have hl := ev_rep ht l
 have hcap := ev_rep ht c
 simp only [pop] at hp
 split at hp
 ·rename_i e sz bytes zero k n k' m hti hel hec
  rw [hel] at hl
  rw [hec] at hcap
  obtain ⟨⟨h0, h1, h2, h3⟩, _, f', rfl, hf', hK⟩ := hp
  obtain ⟨hu, hsz, inf, zv, hinf, hisz, hib, hz, hzs, hzl, hzc⟩ := hT.slice _ _ _ _ _ hti
  subst hisz hib
  have hm : (inf.bytes : Int) * m ≤ 281474976710656 := by
   have e1 : (m.toNat : Int) = m := Int.toNat_of_nonneg (by omega)
   have e2 : ((m.toNat * inf.bytes : Nat) : Int) ≤ 140737488355328 := by omega
   rw [Int.natCast_mul, e1, Int.mul_comm] at e2
   omega
  have hrun := run_make (P := P) w t e inf zv hu hinf hz k k' n m h0 h1 hm (by omega)
  have hcore := core_new (w1 := w.alloc (.cells (madeCells zv.cells (m.toNat * inf.size)) e)) hc inf.size n.toNat e (fun _ => zero) (some (w.heap.size, 0))
   ⟨Nat.le_refl _, _, heap_alloc_new w _, by
    rw [size_madeCells, Nat.zero_add]
    exact Nat.mul_le_mul_right _ (by omega), fun i j pv hi hj => by
    have hjs : j < inf.size := by rw [← hzl]; exact (List.getElem?_eq_some_iff.1 hj).1
    have hlt : 0 + i * inf.size + j < m.toNat * inf.size := by
     have : (i + 1) * inf.size ≤ m.toNat * inf.size := Nat.mul_le_mul_right _ (by omega)
     rw [Nat.add_mul] at this
     omega
    rw [madeCells_get _ _ _ hlt (by omega), Nat.zero_add, hzs, mod_row i j _ hjs]
    have hjz : j < zv.cells.size := by omega
    obtain ⟨pv', h5, _, h6⟩ := hzc j zv.cells[j] (Array.getElem?_eq_getElem hjz)
    rw [hj] at h5
    injection h5 with h5
    subst h5
    exact ⟨_, Array.getElem?_eq_getElem hjz, CRep.of_pure (h6 S w)⟩⟩ (alloc_agree w _) (fun i hi => hzl)
  obtain ⟨hfr, hco⟩ := hcore
  refine Acts.rows (Acts.of_value (run_v_of rfl (by rw [hl.int_inv, hcap.int_inv]; exact hrun)) ⟨_, HEq'.snoc _ _ _ _ _ _ _ hf', hK⟩ ?_ hco hfr)
  show OwnRep _ _ _ _ _ _ _ _
  unfold OwnRep
  rw [List.getElem?_append_right (Nat.le_refl _), Nat.sub_self]
  refine ⟨⟨_, _, _, rfl⟩, Nat.le_refl _, fun _ => ⟨by omega, ?_⟩⟩
  rw [muSet_self]
  refine ⟨_, m.toNat, rfl, by omega, fun _ => by simp, _, e, heap_alloc_new w _, ?_⟩
  rw [size_madeCells]
  simp
 ·exact hp.elim
theorem fill_row (sz len : Nat) (place : Nat → Option (Nat × Nat)) (hplace : ∀ i, place i = some (i * sz, sz)) : ∀ (l : List (Nat × Operand)) (ρ : Operand → Value) (k : Nat) (cells : Array Value), idxOk len k l = true → cells.size = len * sz →
  (∀ p ∈ l, (ρ p.2).cells.size = sz) →
  ∃ cells', Instr.fill place cells (l.map fun p => (p.1, ρ p.2)) = some cells' ∧ cells'.size = len * sz ∧ (∀ q, q < k * sz → cells'[q]? = cells[q]?) ∧
   ∀ (i j : Nat) (p : Nat × Operand), l[i]? = some p → j < sz → cells'[(k + i) * sz + j]? = (ρ p.2).cells[j]?
 | [], ρ, k, cells, hi, hs, _ => ⟨cells, rfl, hs, fun _ _ => rfl, fun i j p hp => by simp at hp⟩
 | (i0, x) :: r, ρ, k, cells, hi, hs, hv => by
  simp only [idxOk, Bool.and_eq_true] at hi
  have hik := Nat.eq_of_beq_eq_true hi.1
  subst hik
  have hlen : ∀ (l : List (Nat × Operand)) (k : Nat), idxOk len k l = true → k ≤ len := by
   intro l
   induction l with
   | nil => intro k h; exact Nat.le_of_eq (Nat.eq_of_beq_eq_true h)
   | cons p l ih =>
    intro k h
    obtain ⟨a, b⟩ := p
    simp only [idxOk, Bool.and_eq_true] at h
    have := ih (k + 1) h.2
    omega
  have hk := hlen r (i0 + 1) hi.2
  have hvx := hv (i0, x) (by simp)
  have hroom : (i0 + 1) * sz ≤ len * sz := Nat.mul_le_mul_right _ hk
  have hroom' := hroom
  rw [Nat.add_mul] at hroom'
  obtain ⟨g1, g2⟩ := foldl_set_array (ρ x) (i0 * sz) cells (by rw [hvx]; omega)
  obtain ⟨cells', h1, h2, h3, h4⟩ := fill_row sz len place hplace r ρ (i0 + 1) _ hi.2 (g1.trans hs) (fun p hp => hv p (by simp [hp]))
  refine ⟨cells', ?_, h2, fun q hq => ?_, fun i j p hp hj => ?_⟩
  ·simp only [List.map_cons, Instr.fill, hplace]
   rw [if_neg (by simp only [hvx, ne_eq, not_true_eq_false, false_or]; simp only [Bool.or_eq_true, decide_eq_true_eq, not_or]; simp; omega)]
   exact h1
  ·rw [h3 q (by rw [Nat.add_mul]; omega), g2 q, if_neg (by omega)]
  ·cases i with
   | zero =>
    simp at hp
    subst hp
    rw [Nat.add_zero, h3 _ (by rw [Nat.add_mul]; omega), g2, hvx, if_pos (by omega)]
    congr 1
    omega
   | succ i =>
    simp at hp
    have := h4 i j p hp hj
    rw [show i0 + 1 + i = i0 + (i + 1) from by omega] at this
    exact this
theorem buildSlice_sound (hT : TabOk P T) (hc : Core μ h S w) (ht : ∀ t, VRep μ h S w (env t) (a.tmps.getD t undef)) (t len : Nat) (parts : Array (Nat × Operand)) (hp : pop P T (.buildSlice t len parts) env h K) :
  Acts P ⟨dst, .buildSlice t len parts, ty, pos, after, guard⟩ a μ h S w K := by
 simp only [pop] at hp
 split at hp
 ·rename_i e sz bytes zero hti
  replace hp := guardB_elim hp
  obtain ⟨hcond, hK⟩ := hp
  obtain ⟨hu, hsz, inf, zv, hinf, hisz, hib, hz, hzs, hzl, hzc⟩ := hT.slice _ _ _ _ _ hti
  subst hisz
  simp only [Bool.and_eq_true] at hcond
  obtain ⟨hidx, hle⟩ := hcond
  have hle := Nat.le_of_ble_eq_true hle
  obtain ⟨hall, hK⟩ := pparts_elim _ _ hK
  simp only [List.reverse_nil, List.nil_append] at hK
  have hcells : ∀ p ∈ parts.toList, (a.eval p.2).cells.size = inf.size ∧ (cellsOf (ev env p.2)).length = inf.size ∧
    ∀ (j : Nat) (q : PV), (cellsOf (ev env p.2))[j]? = some q → ∃ u, (a.eval p.2).cells[j]? = some u ∧ CRep μ h S w q u := fun p hp => by
   obtain ⟨h1, h2⟩ := hall p hp
   have h2 := Nat.eq_of_beq_eq_true h2
   obtain ⟨h3, h4⟩ := storable_cells h1 (ev_rep ht p.2)
   simp only [Array.length_toList, Array.getElem?_toList] at h3 h4
   exact ⟨h3.trans h2, h2, h4⟩
  obtain ⟨cells', f1, f2, _, f4⟩ := fill_row inf.size len (fun i => some (i * inf.size, inf.size)) (fun _ => rfl) parts.toList a.eval 0
   ((Array.range (len * inf.size)).map (fun q => (if len * inf.size = 0 then #[] else zv.cells)[q % (if len * inf.size = 0 then #[] else zv.cells).size]!)) hidx (by simp) (fun p hp => (hcells p hp).1)
  have hlen : parts.toList.length = len := by
   have key : ∀ (l : List (Nat × Operand)) (k : Nat), idxOk len k l = true → k + l.length = len := by
    intro l
    induction l with
    | nil => intro k hh; exact Nat.eq_of_beq_eq_true hh
    | cons p l ih =>
     intro k hh
     obtain ⟨x, y⟩ := p
     simp only [idxOk, Bool.and_eq_true] at hh
     have := ih (k + 1) hh.2
     simp only [List.length_cons]
     omega
   have := key parts.toList 0 hidx
   omega
  have hget : ∀ i, i < len → ∃ p, parts.toList[i]? = some p ∧ p ∈ parts.toList ∧ (parts.toList.map fun p => cellsOf (ev env p.2)).getD i [] = cellsOf (ev env p.2) := fun i hi => by
   have hi' : i < parts.toList.length := by omega
   refine ⟨parts.toList[i], List.getElem?_eq_getElem hi', List.getElem_mem hi', ?_⟩
   rw [List.getD_eq_getElem?_getD, List.getElem?_map, List.getElem?_eq_getElem hi']
   rfl
  have hcore := core_new (w1 := w.alloc (.cells cells' e)) hc inf.size len e (fun k => (parts.toList.map fun p => cellsOf (ev env p.2)).getD k []) (some (w.heap.size, 0))
   ⟨Nat.le_refl _, cells', heap_alloc_new w _, by omega, fun i j pv hi hj => by
    obtain ⟨p, hp1, hp2, hp3⟩ := hget i hi
    rw [hp3] at hj
    obtain ⟨_, q2, q3⟩ := hcells p hp2
    have hjs : j < inf.size := by rw [← q2]; exact (List.getElem?_eq_some_iff.1 hj).1
    have := f4 i j p hp1 hjs
    rw [Nat.zero_add] at this
    obtain ⟨u, hu1, hu2⟩ := q3 j pv hj
    exact ⟨u, by rw [← hu1, ← this, Nat.zero_add], hu2⟩⟩ (alloc_agree w _)
   (fun i hi => by
    obtain ⟨p, hp1, hp2, hp3⟩ := hget i hi
    rw [hp3]
    exact (hcells p hp2).2.1)
  obtain ⟨hfr, hco⟩ := hcore
  obtain ⟨f', hf', hK⟩ := hK
  refine Acts.rows (Acts.of_value (val := .slice (some ⟨w.heap.size, 0, none⟩) len len) (run_v_of rfl ?_) ⟨_, HEq'.snoc _ _ _ _ _ _ _ hf', hK⟩ ?_ hco hfr)
  ·have hparts : (parts.map fun p => (p.1, a.eval p.2)).toList = parts.toList.map fun p => (p.1, a.eval p.2) := by simp
   have hn : ¬ (16777216 < len * inf.size) := by omega
   have hfill : Instr.fill (fun i => some (i * inf.size, inf.size)) (Array.map (fun x => (if len * inf.size = 0 then #[] else zv.cells)[x % (if len * inf.size = 0 then #[] else zv.cells).size]!) (Array.range (len * inf.size))) (parts.map fun p => (p.1, a.eval p.2)).toList = some cells' := by
    rw [hparts]; exact f1
   by_cases h0 : len * inf.size = 0
   ·simp [h0] at hfill
    simp only [Instr.buildSlice, Sem.run_bind, run_underlying hu, Result.andThen, size_of hinf]
    simp [h0, newRow]
    rw [hfill]
    rfl
   ·simp [h0] at hfill
    simp only [Instr.buildSlice, Sem.run_bind, run_underlying hu, Result.andThen, size_of hinf]
    simp [h0, hn, newRow, zeroValue, typeInfo, hinf, hz]
    rw [hfill]
    rfl
  ·show OwnRep _ _ _ _ _ _ _ _
   unfold OwnRep
   rw [List.getElem?_append_right (Nat.le_refl _), Nat.sub_self]
   refine ⟨⟨_, _, _, rfl⟩, Nat.le_refl _, fun _ => ⟨by omega, ?_⟩⟩
   rw [muSet_self]
   exact ⟨_, len, rfl, Nat.le_refl _, fun _ => by simp, cells', e, heap_alloc_new w _, by rw [Nat.zero_add, Nat.zero_add]; omega⟩
 ·exact hp.elim
theorem box_sound (hc : Core μ h S w) (ht : ∀ t, VRep μ h S w (env t) (a.tmps.getD t undef)) (t : Nat) (x : Operand) (hp : pop P T (.box t x) env h K) :
  Acts P ⟨dst, .box t x, ty, pos, after, guard⟩ a μ h S w K := by
 simp only [pop] at hp
 replace hp := guardB_elim (force_elim hp)
 obtain ⟨hcond, hK⟩ := hp
 simp only [Bool.and_eq_true] at hcond
 obtain ⟨hst, hlen⟩ := hcond
 have hlen := Nat.eq_of_beq_eq_true hlen
 obtain ⟨h3, h4⟩ := storable_cells hst (ev_rep ht x)
 simp only [Array.length_toList, Array.getElem?_toList] at h3 h4
 have hcore := core_new (w1 := w.alloc (.cells (a.eval x).cells t)) hc (tySize (T.get t)) 1 t (fun _ => cellsOf (ev env x)) (some (w.heap.size, 0))
  ⟨Nat.le_refl _, _, heap_alloc_new w _, by omega, fun i j pv hi hj => by
   obtain ⟨u, hu, hr⟩ := h4 j pv hj
   have : i = 0 := by omega
   subst this
   exact ⟨u, by rw [← hu]; congr 1; omega, hr⟩⟩ (alloc_agree w _) (fun i hi => hlen)
 obtain ⟨hfr, hco⟩ := hcore
 refine Acts.of_value (val := .pointer (some ⟨w.heap.size, 0, none⟩)) (run_v_of rfl ?_) hK ?_ hco hfr
 ·simp [Instr.box, newVar, newRow]
 ·show OptrRep _ _ _ _ _ _ _ _
  unfold OptrRep
  rw [List.getElem?_append_right (Nat.le_refl _), Nat.sub_self]
  refine ⟨⟨_, rfl⟩, Nat.le_refl _, fun _ => ⟨by omega, w.heap.size, 0, muSet_self _ _ _, ⟨_, _, heap_alloc_new w _, Nat.zero_le _⟩, ?_⟩⟩
  simp
theorem alloc_sound (hT : TabOk P T) (hc : Core μ h S w) (t : Nat) (hp : pop P T (.alloc t) env h K) :
  Acts P ⟨dst, .alloc t, ty, pos, after, guard⟩ a μ h S w K := by
 simp only [pop] at hp
 split at hp
 ·rename_i z hti
  obtain ⟨i, zv, hi, hz, hzs, hzl, hzc⟩ := hT.zero t z hti
  generalize hsz : tySize (T.get t) = sz at *
  have hcore := core_new (w1 := w.alloc (.cells zv.cells t)) hc sz 1 t (fun _ => z) (some (w.heap.size, 0))
   ⟨Nat.le_refl _, _, heap_alloc_new w _, by omega, fun i j pv hi hj => by
    have hjz : j < zv.cells.size := by
     have := (List.getElem?_eq_some_iff.1 hj).1
     omega
    obtain ⟨pv', h5, _, h6⟩ := hzc j zv.cells[j] (Array.getElem?_eq_getElem hjz)
    rw [hj] at h5
    injection h5 with h5
    subst h5
    have : i = 0 := by omega
    subst this
    exact ⟨_, by rw [← Array.getElem?_eq_getElem hjz]; congr 1; omega, CRep.of_pure (h6 S w)⟩⟩ (alloc_agree w _) (fun i hi => hzl)
  obtain ⟨hfr, hco⟩ := hcore
  refine Acts.of_value (val := .pointer (some ⟨w.heap.size, 0, none⟩)) (run_v_of rfl ?_) hp ?_ hco hfr
  ·simp [Instr.alloc, zeroValue, typeInfo, hi, hz, newVar, newRow]
  ·show OptrRep _ _ _ _ _ _ _ _
   unfold OptrRep
   rw [List.getElem?_append_right (Nat.le_refl _), Nat.sub_self]
   refine ⟨⟨_, rfl⟩, Nat.le_refl _, fun _ => ⟨by omega, w.heap.size, 0, muSet_self _ _ _, ⟨_, _, heap_alloc_new w _, Nat.zero_le _⟩, ?_⟩⟩
   simp
 ·exact hp.elim
end
end Go.Am
