/- The contract of slices.Insert, at one value into a row of values. (Printed by gen_i3.py.) -/
import Derived.Test.YtgkniabpdgaoiaaDoorI2
set_option linter.unusedVariables false
set_option linter.unusedSimpArgs false
namespace Go.Am
open Go Go.RowKit Go.Proofs
def m_Insert (a0 : List TValue) (a1 : Int) (a2 : List TValue) : Option (List TValue) :=
 if 0 ≤ a1 ∧ a1 ≤ (a0.length : Int) ∧ a2.length = 1 ∧ (a0.length + 1) * 64 ≤ 140737488355328 then some (a0.take a1.toNat ++ a2 ++ a0.drop a1.toNat) else none
theorem cut_get (l : List Value) (o n j : Nat) (v : Value) (h : ((l.drop o).take n)[j]? = some v) : l[o + j]? = some v := by
 rw [List.getElem?_take] at h
 split at h
 ·rwa [List.getElem?_drop] at h
 ·cases h
theorem ins_get {a0 : List TValue} {x : TValue} {i : Nat} (hi : i ≤ a0.length) (k : Nat) : (a0.take i ++ [x] ++ a0.drop i)[k]? = if k < i then a0[k]? else if k = i then some x else a0[k - 1]? := by
 have hl : (a0.take i).length = i := by rw [List.length_take]; omega
 rw [List.append_assoc, List.getElem?_append]
 by_cases h : k < i
 ·rw [if_pos (by omega), if_pos h, List.getElem?_take, if_pos h]
 ·rw [if_neg (by omega), if_neg h, hl]
  by_cases hk : k = i
  ·subst hk; rw [if_pos rfl, Nat.sub_self]; rfl
  ·rw [if_neg hk]
   obtain ⟨d, hd⟩ : ∃ d, k - i = d + 1 := ⟨k - i - 1, by omega⟩
   rw [hd]
   show (a0.drop i)[d]? = _
   rw [List.getElem?_drop]
   congr 1
   omega
theorem row_at_ {l : List TValue} {k : Nat} {y : TValue} (h : l[k]? = some y) : row TValue.cells l k = TValue.cells y := by
 obtain ⟨h1, h2⟩ := List.getElem?_eq_some_iff.1 h
 rw [row_lt h1, h2]
theorem ins_cells {G : PV → Value → Prop} {a0 : List TValue} {x : TValue} {i base vbase o1 : Nat} {cur curv cur1 : Array Value} (hi : i ≤ a0.length)
  (hc0 : ∀ (k j : Nat) (pv : PV), k < a0.length → (row TValue.cells a0 k)[j]? = some pv → ∃ v : Value, cur[base + k * 5 + j]? = some v ∧ G pv v)
  (hcx : ∀ (k j : Nat) (pv : PV), k < 1 → (row TValue.cells [x] k)[j]? = some pv → ∃ v : Value, curv[vbase + k * 5 + j]? = some v ∧ G pv v)
  (f1 : ∀ k j, k < i → j < 5 → cur1[o1 + k * 5 + j]? = cur[base + k * 5 + j]?) (f2 : ∀ j, j < 5 → cur1[o1 + i * 5 + j]? = curv[vbase + j]?) (f3 : ∀ k j, i ≤ k → k < a0.length → j < 5 → cur1[o1 + (k + 1) * 5 + j]? = cur[base + k * 5 + j]?) :
  ∀ (k j : Nat) (pv : PV), k < (a0.take i ++ [x] ++ a0.drop i).length → (row TValue.cells (a0.take i ++ [x] ++ a0.drop i) k)[j]? = some pv → ∃ v : Value, cur1[o1 + k * 5 + j]? = some v ∧ G pv v := by
 intro k j pv hk hj
 have hg := ins_get (x := x) hi k
 have hlen : (a0.take i ++ [x] ++ a0.drop i).length = a0.length + 1 := by simp; omega
 by_cases h1 : k < i
 ·have hy : a0[k]? = some (a0[k]'(by omega)) := List.getElem?_eq_getElem (by omega)
  rw [if_pos h1, hy] at hg
  rw [row_at_ hg] at hj
  have hj5 : j < 5 := by have := (List.getElem?_eq_some_iff.1 hj).1; rw [TValue.cells_eq] at this; exact this
  rw [f1 k j h1 hj5]
  exact hc0 k j pv (by omega) (by rw [row_lt (by omega)]; exact hj)
 ·rw [if_neg h1] at hg
  by_cases h2 : k = i
  ·subst h2
   rw [if_pos rfl] at hg
   rw [row_at_ hg] at hj
   have hj5 : j < 5 := by have := (List.getElem?_eq_some_iff.1 hj).1; rw [TValue.cells_eq] at this; exact this
   rw [f2 j hj5]
   have := hcx 0 j pv (by omega) hj
   simpa using this
  ·have hy : a0[k - 1]? = some (a0[k - 1]'(by omega)) := List.getElem?_eq_getElem (by omega)
   rw [if_neg h2, hy] at hg
   rw [row_at_ hg] at hj
   have hj5 : j < 5 := by have := (List.getElem?_eq_some_iff.1 hj).1; rw [TValue.cells_eq] at this; exact this
   obtain ⟨d, rfl⟩ : ∃ d, k = d + 1 := ⟨k - 1, by omega⟩
   rw [f3 d j (by omega) (by omega) hj5]
   exact hc0 d j pv (by omega) (by rw [row_lt (by omega)]; exact hj)
set_option maxHeartbeats 1000000 in
theorem ok_Insert {a0 : List TValue} {a1 : Int} {a2 : List TValue} {r : List TValue} {g1000 : Nat} {g1001 : Nat} (h : m_Insert a0 a1 a2 = some r) : ACall Tryd.prog 18 [.own 0 g1000 0 a0.length, .int .i64 a1, .own 1 g1001 0 a2.length] [.row g1000 5 a0.length 29 (row TValue.cells a0), .row g1001 5 a2.length 29 (row TValue.cells a2)] (fun res h => res = .own 2 0 0 r.length ∧ h = [.dead, .dead, .row 0 5 r.length 29 (row TValue.cells r)]) := by
 obtain ⟨⟨h0, h1, h2, h3⟩, rfl⟩ := ite_some h
 obtain ⟨i, rfl⟩ : ∃ i : Nat, a1 = (i : Int) := ⟨a1.toNat, by omega⟩
 obtain ⟨x, rfl⟩ : ∃ x, a2 = [x] := List.length_eq_one_iff.1 h2
 rw [Int.toNat_natCast]
 have hi : i ≤ a0.length := by omega
 have hrl : (a0.take i ++ [x] ++ a0.drop i).length = a0.length + 1 := by simp; omega
 refine ⟨⟨_, _, Tryd.func18, rfl, by kernel_rfl⟩, fun w vs μ S hH hM hsz ha => ?_⟩
 obtain ⟨v0, hv0, hr0⟩ := ha 0 _ rfl
 obtain ⟨v1, hv1, hr1⟩ := ha 1 _ rfl
 obtain ⟨v2, hv2, hr2⟩ := ha 2 _ rfl
 obtain rfl := args3 hsz hv0 hv1 hv2
 have hr1 : PRep S w (.int .i64 (i : Int)) v1 := hr1
 cases hr1
 have hcore : Core μ [.row g1000 5 a0.length 29 (row TValue.cells a0), .row g1001 5 [x].length 29 (row TValue.cells [x])] S w := ⟨hH, hM⟩
 have hr2 : OwnRep μ [.row g1000 5 a0.length 29 (row TValue.cells a0), .row g1001 5 [x].length 29 (row TValue.cells [x])] w 1 g1001 0 [x].length v2 := hr2
 unfold OwnRep at hr2
 obtain ⟨⟨sa2, sl2, sc2, rfl⟩, hr2⟩ := hr2
 obtain ⟨_, hr2⟩ : g1001 ≤ g1001 ∧ _ := hr2
 obtain ⟨hle2, hr2⟩ := hr2 rfl
 obtain ⟨hx5, hH1⟩ := hH 1 g1001 5 [x].length 29 _ rfl
 cases hm1 : μ 1 with
 | none =>
  rw [hm1] at hH1
  exact absurd hH1 (by simp)
 | some p1 =>
  obtain ⟨vb, vbase⟩ := p1
  rw [hm1] at hr2 hH1
  obtain ⟨ad2, cap2, hv2', hlc2, had2, hcap2⟩ := hr2
  injection hv2' with e1 e2 e3
  subst e1 e2 e3
  have had2 := had2 (by simp at hlc2; omega)
  subst had2
  obtain ⟨curv, hvh, hfv, hcv⟩ := HeapRep.cells hcap2 hH1
  have hfv' : vbase + 5 ≤ curv.size := by simpa using hfv
  have hz0 : vbase + 0 * 5 = vbase := by omega
  rw [hz0]
  have hvl : ((curv.toList.drop vbase).take 5).length = 5 := by simp; omega
  have hvs : ∀ j v, ((curv.toList.drop vbase).take 5)[j]? = some v → curv[vbase + j]? = some v := fun j v hj => by have := cut_get _ _ _ _ _ hj; simpa using this
  have hvs2 : ∀ j, j < 5 → ((curv.toList.drop vbase).take 5)[j]? = curv[vbase + j]? := fun j hj => by rw [List.getElem?_take, if_pos hj, List.getElem?_drop]; simp
  have h1v : ∀ v ∈ (curv.toList.drop vbase).take 5, v.oneCell' = true := fun v hv => by
   obtain ⟨j, hj, rfl⟩ := List.mem_iff_getElem.1 hv
   have hj5 : j < 5 := by omega
   obtain ⟨pv, hpv⟩ : ∃ pv, (row TValue.cells [x] 0)[j]? = some pv := ⟨_, List.getElem?_eq_getElem (by rw [hx5 0 (by simp)]; exact hj5)⟩
   obtain ⟨u, q1, q2⟩ := hcv 0 j pv (by simp) hpv
   have q3 := hvs2 j hj5
   have q1' : curv[vbase + j]? = some u := by simpa using q1
   rw [List.getElem?_eq_getElem hj, q1'] at q3
   rw [Option.some.inj q3]
   exact CRep.one q2
  generalize hvsd : (curv.toList.drop vbase).take 5 = vs5 at hvl hvs hvs2 h1v
  have hvw : ∀ j v, vs5[j]? = some v → w.cell? ((⟨vb, vbase, none⟩ : Addr).add j) = some v := fun j v hj => by rw [Addr.add_lit, cell_of_row w vb _ curv 29 (0, 0) hvh]; exact hvs j v hj
  have hr0 : OwnRep μ [.row g1000 5 a0.length 29 (row TValue.cells a0), .row g1001 5 [x].length 29 (row TValue.cells [x])] w 0 g1000 0 a0.length v0 := hr0
  unfold OwnRep at hr0
  obtain ⟨⟨sa, sl, sc, rfl⟩, hr0⟩ := hr0
  obtain ⟨_, hr0⟩ : g1000 ≤ g1000 ∧ _ := hr0
  obtain ⟨hle, hr0⟩ := hr0 rfl
  obtain ⟨ha5, hH0⟩ := hH 0 g1000 5 a0.length 29 _ rfl
  have hc5 : ∀ y : TValue, (TValue.cells y).length = 5 := fun y => by rw [TValue.cells_eq]; rfl
  have grow_end : ∀ (base : Option Addr) (c : Nat) (olds : List Value) (cur : Array Value) (cb : Nat), (Builtin.firstCells 5 a0.length (.slice base a0.length c)).run Tryd.prog w.drew = .ok olds.toArray w.drew → olds.length = a0.length * 5 → a0.length ≤ c → c < a0.length + 1 → (base = none → a0.length = 0) → i = a0.length →
    (∀ j, j < a0.length * 5 → olds[j]? = cur[cb + j]?) → (∀ (k j : Nat) (pv : PV), k < a0.length → (row TValue.cells a0 k)[j]? = some pv → ∃ v : Value, cur[cb + k * 5 + j]? = some v ∧ CRep μ [.row g1000 5 a0.length 29 (row TValue.cells a0), .row g1001 5 [x].length 29 (row TValue.cells [x])] S w pv v) →
    (∀ b base, μ 0 = some (b, base) → ¬ MapBlk w b) →
    Calls Tryd.prog 18 #[.slice base a0.length c, .int .i64 (i : Int), .slice (some ⟨vb, vbase, none⟩) 1 sc2] w (fun e w' => ∃ (v : Value) (res : PV) (h' : List AObj) (μ' : Mu) (S' : Nat → Prop), e = .returned v ∧ (res = .own 2 0 0 (a0.take i ++ [x] ++ a0.drop i).length ∧ h' = [.dead, .dead, .row 0 5 (a0.take i ++ [x] ++ a0.drop i).length 29 (row TValue.cells (a0.take i ++ [x] ++ a0.drop i))]) ∧ VRep μ' h' S' w' res v ∧ HeapRep μ' h' S' w' ∧ MuOk μ' h' S' w' ∧ Fr μ [.row g1000 5 a0.length 29 (row TValue.cells a0), .row g1001 5 [x].length 29 (row TValue.cells [x])] S w μ' h' S' w') := by
   intro base c olds cur cb q1 q2 q3 q4 q5 q6 q7 q8 q9
   subst q6
   refine (ins_end_grow q1 q2 hvl hvw q3 q4 h3 q5).mono ?_
   rintro e w' ⟨zs, rfl, hzl, rfl⟩
   have hG := grownCap_ge w (a0.length + 1) c 29
   generalize hGe : grownCap w (a0.length + 1) c 29 = G at hG hzl ⊢
   rw [← hrl]
   refine ins_done hcore _ w.heap.size 0 G (olds ++ vs5 ++ zs).toArray (.inl (Nat.le_refl _)) (show (w.heap.push (.cells (olds ++ vs5 ++ zs).toArray 29 (0, 0)))[w.heap.size]? = _ from Array.getElem?_push_size) (by simp; omega) (by omega) (by omega)
    (fun b' hb' hne => by show (w.heap.push _)[b']? = _; rw [Array.getElem?_push, if_neg hne]) (by show w.heap.size ≤ (w.heap.push _).size; simp) rfl rfl rfl hc5 q9 ?_
   refine ins_cells (Nat.le_refl _) q8 hcv (cur1 := (olds ++ vs5 ++ zs).toArray) (o1 := 0) (fun k j hk hj => ?_) (fun j hj => ?_) (fun k j hk1 hk2 => absurd hk2 (by omega))
   ·rw [List.getElem?_toArray, List.append_assoc, List.getElem?_append_left (by omega), q7 _ (by omega), Nat.zero_add, Nat.add_assoc]
   ·rw [List.getElem?_toArray, List.append_assoc, List.getElem?_append_right (by omega), List.getElem?_append_left (by omega), ← hvs2 j hj]
    congr 1; omega
  cases hm0 : μ 0 with
  | none =>
   rw [hm0] at hr0 hH0
   injection hr0 with e1 e2 e3
   subst e1 e2 e3
   have hl0 : a0 = [] := List.eq_nil_of_length_eq_zero hH0
   subst hl0
   exact grow_end none 0 [] #[] 0 (run_firstCells_none w.drew 5 0 0 0) rfl (Nat.le_refl _) (by simp) (fun _ => rfl) (by simpa using hi) (fun j hj => absurd hj (by simp)) (fun k j pv hk => absurd hk (by simp)) (fun b base hb => by rw [hm0] at hb; cases hb)
  | some p =>
   obtain ⟨b, base⟩ := p
   rw [hm0] at hr0 hH0
   obtain ⟨ad, cap, hv0', hlc, had, hcap⟩ := hr0
   injection hv0' with e1 e2 e3
   subst e1 e2 e3
   obtain ⟨cur, hbh, hfb, hcb⟩ := HeapRep.cells hcap hH0
   have hcapn : base + sc * 5 ≤ cur.size := by
    obtain ⟨cur', e', p1, p2⟩ := hcap
    rw [hbh] at p1
    injection p1 with p1
    injection p1 with p1 _ _
    subst p1
    simpa using p2
   have hnm : ∀ b base, μ 0 = some (b, base) → ¬ MapBlk w b := fun b' base' hmu' => by
    rw [hm0] at hmu'
    injection hmu' with hmu'
    injection hmu' with q1 q2
    subst q1
    exact hcap.notMap
   have hne : vb ≠ b := fun he => by
    subst he
    have := hM.inj 0 1 g1000 5 a0.length 29 _ g1001 5 [x].length 29 _ vb base vbase rfl rfl hm0 hm1
    omega
   have had : 0 < sc → ad = ⟨b, base, none⟩ := fun hp => by rw [had hp]; simp
   have h1c : ∀ k, k < a0.length * 5 → ∀ v, cur[base + k]? = some v → v.oneCell' = true := fun k hk v hv => by
    obtain ⟨pv, hpv⟩ : ∃ pv, (row TValue.cells a0 (k / 5))[k % 5]? = some pv := ⟨_, List.getElem?_eq_getElem (by rw [ha5 _ (by omega)]; omega)⟩
    obtain ⟨u, q1, q2⟩ := hcb (k / 5) (k % 5) pv (by omega) hpv
    rw [show base + k / 5 * 5 + k % 5 = base + k by omega, hv] at q1
    rw [Option.some.inj q1]
    exact CRep.one q2
   have hcb' : ∀ (k j : Nat) (pv : PV), k < a0.length → (row TValue.cells a0 k)[j]? = some pv → ∃ v : Value, cur[base + k * 5 + j]? = some v ∧ CRep μ [.row g1000 5 a0.length 29 (row TValue.cells a0), .row g1001 5 [x].length 29 (row TValue.cells [x])] S w pv v := hcb
   have seg : ∀ o m, o + m ≤ a0.length * 5 → ((cur.toList.drop (base + o)).take m).length = m ∧ (∀ j v, ((cur.toList.drop (base + o)).take m)[j]? = some v → cur[base + o + j]? = some v) ∧ (∀ j, j < m → ((cur.toList.drop (base + o)).take m)[j]? = cur[base + o + j]?) ∧ ∀ v ∈ (cur.toList.drop (base + o)).take m, v.oneCell' = true := fun o m hom => by
    have hl : ((cur.toList.drop (base + o)).take m).length = m := by simp; omega
    have hg : ∀ j, j < m → ((cur.toList.drop (base + o)).take m)[j]? = cur[base + o + j]? := fun j hj => by rw [List.getElem?_take, if_pos hj, List.getElem?_drop]; simp
    refine ⟨hl, fun j v hj => by have := cut_get _ _ _ _ _ hj; simpa using this, hg, fun v hv => ?_⟩
    obtain ⟨j, hj, rfl⟩ := List.mem_iff_getElem.1 hv
    have q := hg j (by omega)
    rw [List.getElem?_eq_getElem hj] at q
    exact h1c (o + j) (by omega) _ (by rw [← Nat.add_assoc]; exact q.symm)
   rcases Nat.lt_or_ge i a0.length with hin | hin
   ·have hca := had (by omega)
    subst hca
    obtain ⟨s1, s2, s3, s4⟩ := seg (i * 5) ((a0.length - i) * 5) (by omega)
    generalize hcs : (cur.toList.drop (base + i * 5)).take ((a0.length - i) * 5) = cs at s1 s2 s3 s4
    have s3' : ∀ k j, i ≤ k → k < a0.length → j < 5 → cs[k * 5 + j - i * 5]? = cur[base + k * 5 + j]? := fun k j q1 q2 q3 => by
     rw [s3 _ (by omega)]; congr 1; omega
    rcases Nat.lt_or_ge sc (a0.length + 1) with hrm | hrm
    ·obtain ⟨t1, t2, t3, t4⟩ := seg 0 (i * 5) (by omega)
     rw [Nat.add_zero] at t1 t2 t3 t4
     generalize hcs0 : (cur.toList.drop base).take (i * 5) = cs0 at t1 t2 t3 t4
     refine (ins_grow hbh hvh hin (by omega) hrm h3 hcapn cs0 cs t1 t2 s1 s2 s4 hvl hvs h1v).mono ?_
     rintro e w' ⟨ROW, W2, rfl, hRs, hR0, rfl, rfl⟩
     have hG := grownCap_ge w (a0.length + 1) sc 29
     generalize hGe : grownCap w (a0.length + 1) sc 29 = G at hG hRs ⊢
     have hsz1 := spl_size (cur := ROW) (o := i * 5) (cs := vs5) (by omega)
     have hsz2 := spl_size (cur := spl ROW (i * 5) vs5) (o := (i + 1) * 5) (cs := cs) (by omega)
     have hN1 : (w.drew.alloc (.cells ROW 29)).heap[w.heap.size]? = some (.cells ROW 29 (0, 0)) := (show (w.heap.push (.cells ROW 29 (0, 0)))[w.heap.size]? = _ from Array.getElem?_push_size)
     have hN2 := setRow_heap (w.drew.alloc (.cells ROW 29)) w.heap.size ROW (spl ROW (i * 5) vs5) 29 _ hN1
     rw [← hrl]
     refine ins_done hcore _ w.heap.size 0 G (spl (spl ROW (i * 5) vs5) ((i + 1) * 5) cs) (.inl (Nat.le_refl _)) (setRow_heap _ w.heap.size _ _ 29 _ hN2) (by omega) (by omega) (by omega)
      (fun b' hb' hne' => by
       rw [setRow_other _ _ _ _ hne']
       show ((w.drew.alloc (.cells ROW 29)).setRow w.heap.size _).heap[b']? = _
       rw [setRow_other _ _ _ _ hne']
       show (w.heap.push _)[b']? = _
       rw [Array.getElem?_push, if_neg hne']) (by simp) rfl rfl rfl hc5 hnm ?_
     refine ins_cells hi hcb' hcv (fun k j hk hj => ?_) (fun j hj => ?_) (fun k j hk1 hk2 hj => ?_)
     ·rw [spl_get (by omega), if_neg (by omega), spl_get (by omega), if_neg (by omega), hR0 _ (by omega), t3 _ (by omega)]; congr 1; omega
     ·rw [spl_get (by omega), if_neg (by omega), spl_get (by omega), if_pos (by omega), ← hvs2 j hj]; congr 1; omega
     ·rw [spl_get (by omega), if_pos (by omega), ← s3' k j hk1 hk2 hj]; congr 1; omega
    ·have hcl : a0.length + 1 ≤ 9223372036854775807 := by omega
     refine (ins_shift hbh hvh hne hin hrm hcl hcapn cs s1 s2 s4 hvl hvs h1v).mono ?_
     rintro e w' ⟨rfl, rfl⟩
     have hsz1 := spl_size (cur := cur) (o := base + (i + 1) * 5) (cs := cs) (by omega)
     have hsz2 := spl_size (cur := spl cur (base + (i + 1) * 5) cs) (o := base + i * 5) (cs := vs5) (by omega)
     have hbd : w.drew.heap[b]? = some (.cells cur 29 (0, 0)) := hbh
     have hN2 := setRow_heap w.drew b cur (spl cur (base + (i + 1) * 5) cs) 29 _ hbd
     rw [← hrl]
     refine ins_done hcore _ b base sc (spl (spl cur (base + (i + 1) * 5) cs) (base + i * 5) vs5) (.inr ⟨base, cur, hm0, hbh, by omega⟩) (setRow_heap _ b _ _ 29 _ hN2) (by omega) (by omega) (by omega)
      (fun b' hb' hne' => by rw [setRow_other _ _ _ _ hne', setRow_other _ _ _ _ hne']; rfl) (by simp) rfl rfl rfl hc5 hnm ?_
     refine ins_cells hi hcb' hcv (fun k j hk hj => ?_) (fun j hj => ?_) (fun k j hk1 hk2 hj => ?_)
     ·rw [spl_get (by omega), if_neg (by omega), spl_get (by omega), if_neg (by omega)]
     ·rw [spl_get (by omega), if_pos (by omega), ← hvs2 j hj]; congr 1; omega
     ·rw [spl_get (by omega), if_neg (by omega), spl_get (by omega), if_pos (by omega), ← s3' k j hk1 hk2 hj]; congr 1; omega
   ·have hie : i = a0.length := by omega
    obtain ⟨s1, s2, s3, s4⟩ := seg 0 (a0.length * 5) (by omega)
    rw [Nat.add_zero] at s1 s2 s3 s4
    rcases Nat.lt_or_ge sc (a0.length + 1) with hrm | hrm
    ·refine grow_end (some ad) sc _ cur base ?_ s1 hlc hrm (fun h => by cases h) hie s3 hcb' hnm
     refine run_firstCells_some w.drew 5 a0.length ad a0.length sc _ (by rw [s1]) (fun j v hj => ?_)
     have hp : 0 < sc := by
      have := (List.getElem?_eq_some_iff.1 hj).1
      omega
     rw [had hp]
     have hbd : w.drew.heap[b]? = some (.cells cur 29 (0, 0)) := hbh
     rw [Addr.add_lit, cell_of_row w.drew b _ cur 29 (0, 0) hbd]
     exact s2 j v hj
    ·have hca := had (by omega)
     subst hca hie
     have hcl : a0.length + 1 ≤ 9223372036854775807 := by omega
     refine (ins_end_room hbh hvl hvw h1v hrm hcapn hcl).mono ?_
     rintro e w' ⟨rfl, rfl⟩
     have hsz1 := spl_size (cur := cur) (o := base + a0.length * 5) (cs := vs5) (by omega)
     rw [← hrl]
     refine ins_done hcore _ b base sc (spl cur (base + a0.length * 5) vs5) (.inr ⟨base, cur, hm0, hbh, by omega⟩) (setRow_heap _ b _ _ 29 _ hbh) (by omega) (by omega) (by omega)
      (fun b' hb' hne' => setRow_other _ _ _ _ hne') (by simp) rfl rfl rfl hc5 hnm ?_
     refine ins_cells hi hcb' hcv (fun k j hk hj => ?_) (fun j hj => ?_) (fun k j hk1 hk2 => absurd hk2 (by omega))
     ·rw [spl_get (by omega), if_neg (by omega)]
     ·rw [spl_get (by omega), if_pos (by omega), ← hvs2 j hj]; congr 1; omega
end Go.Am
