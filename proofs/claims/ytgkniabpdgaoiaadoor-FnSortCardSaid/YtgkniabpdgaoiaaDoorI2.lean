/- slices.Insert of one value into a row of values. (Printed by gen_i2.py.) -/
import Derived.Test.YtgkniabpdgaoiaaDoorI1
import Derived.Lib.AppendZerosOnto
import Derived.Lib.Walk
import Derived.Lib.SliceRun
import Derived.Laws.Externs
import Derived.Shelf.Spec.SlicesInsert
set_option linter.unusedVariables false
set_option linter.unusedSimpArgs false
namespace Go.Am
open Go Go.RowKit Go.Proofs
theorem infV : ∃ i z, Tryd.prog.info? 29 = some i ∧ i.size = 5 ∧ i.bytes = 64 ∧ i.zero = some z ∧ z.cells.size = 5 := by
 cases h : Tryd.prog.info? 29 with
 | none =>
  have : (Tryd.prog.info? 29).isSome = true := by kernel_rfl
  rw [h] at this
  cases this
 | some i =>
  have h1 : (Tryd.prog.info? 29).map (·.size) = some 5 := by kernel_rfl
  have h2 : (Tryd.prog.info? 29).map (·.bytes) = some 64 := by kernel_rfl
  have h3 : (Tryd.prog.info? 29).map (fun i => (i.zero.map (·.cells.size))) = some (some 5) := by kernel_rfl
  rw [h] at h1 h2 h3
  simp only [Option.map_some, Option.some.injEq] at h1 h2 h3
  cases hz : i.zero with
  | none => rw [hz] at h3; cases h3
  | some z => rw [hz] at h3; exact ⟨i, z, rfl, h1, h2, hz, by simpa using h3⟩
section
variable {w : World} {b o n c i vb vo vc : Nat} {cur curv : Array Value} {ev : TypeId} {vs : List Value}
set_option maxHeartbeats 4000000 in
set_option maxRecDepth 100000 in
theorem ins_end_room (hb : w.heap[b]? = some (.cells cur 29 (0, 0))) (hvl : vs.length = 5) (hvs : ∀ j v, vs[j]? = some v → w.cell? ((⟨vb, vo, none⟩ : Addr).add j) = some v) (h1v : ∀ v ∈ vs, v.oneCell' = true) (hroom : n + 1 ≤ c) (hfit : o + c * 5 ≤ cur.size) (hc63 : n + 1 ≤ 9223372036854775807) :
  Calls Tryd.prog 18 #[.slice (some ⟨b, o, none⟩) n c, .int .i64 n, .slice (some ⟨vb, vo, none⟩) 1 vc] w fun e w' => e = .returned (.slice (some ⟨b, o, none⟩) (n + 1) c) ∧ w' = w.setRow b (spl cur (o + n * 5) vs) := by
 obtain ⟨inf, z, hinf, hs, hby, hz, hzl⟩ := infV
 have hrun : ∀ ty, (Builtin.append_ #[24, 24] ty #[.slice (some ⟨b, o, none⟩) n c, .slice (some ⟨vb, vo, none⟩) 1 vc]).run Tryd.prog w = .ok (.slice (some ⟨b, o, none⟩) (n + 1) c) (w.setRow b (spl cur (o + n * 5) vs)) := fun ty =>
  run_append_fit 24 24 ty 29 inf _ Tryd.underlying24 Tryd.underlying24 (.inl ⟨_, rfl⟩) hinf (some ⟨b, o, none⟩) n c _ 1 vs.toArray _ (by simp [Builtin.lenOf]) (by rw [hs]; exact run_firstCells_some w 5 1 ⟨vb, vo, none⟩ 1 vc vs (by omega) hvs) hroom
   (by
    rw [hs]
    have := run_storeCells_at Tryd.prog b (o + n * 5) 29 vs 0 cur w hb (by omega) h1v
    rw [Nat.add_zero] at this
    show (storeCells ((⟨b, o, none⟩ : Addr).add (n * 5)) vs).run Tryd.prog w = _
    rw [Addr.add_lit]
    exact this)
 have mixed := mixed
 go_enter Tryd.func18, Tryd.ntmps18
 go_wp2_with (at_builtin; refine Lib.wpList_append_run _ rfl _ _ _ _ rfl _ _ rfl rfl _ _ (hrun _) ?_)
 go_ret
 exact ⟨rfl, rfl⟩
set_option maxHeartbeats 4000000 in
set_option maxRecDepth 100000 in
theorem ins_end_grow {olds : List Value} {base : Option Addr} (hold : (Builtin.firstCells 5 n (.slice base n c)).run Tryd.prog w.drew = .ok olds.toArray w.drew) (hol : olds.length = n * 5) (hvl : vs.length = 5) (hvs : ∀ j v, vs[j]? = some v → w.cell? ((⟨vb, vo, none⟩ : Addr).add j) = some v) (hnc : n ≤ c) (hroom : c < n + 1) (hbig : (n + 1) * 64 ≤ 140737488355328) (hnil : base = none → n = 0) :
  Calls Tryd.prog 18 #[.slice base n c, .int .i64 n, .slice (some ⟨vb, vo, none⟩) 1 vc] w fun e w' => ∃ zs : List Value, e = .returned (.slice (some ⟨w.heap.size, 0, none⟩) (n + 1) (grownCap w (n + 1) c 29)) ∧ zs.length = (grownCap w (n + 1) c 29 - (n + 1)) * 5 ∧ w' = w.drew.alloc (.cells (olds ++ vs ++ zs).toArray 29) := by
 obtain ⟨inf, z, hinf, hs, hby, hz, hzl⟩ := infV
 have hrun : ∀ ty, (Builtin.append_ #[24, 24] ty #[.slice base n c, .slice (some ⟨vb, vo, none⟩) 1 vc]).run Tryd.prog w = .ok (.slice (some ⟨w.heap.size, 0, none⟩) (n + 1) (grownCap w (n + 1) c 29)) (w.drew.alloc (.cells (olds.toArray ++ vs.toArray ++ Builtin.zeroCells z.cells (grownCap w (n + 1) c 29 - (n + 1))) 29)) := fun ty =>
  run_append_more 24 24 ty 29 inf z _ Tryd.underlying24 Tryd.underlying24 (.inl ⟨_, rfl⟩) hinf hz base n c _ 1 olds.toArray vs.toArray (by simp [Builtin.lenOf]) (by rw [hs]; exact hold) (by rw [hs]; exact run_firstCells_some w.drew 5 1 ⟨vb, vo, none⟩ 1 vc vs (by omega) hvs) hroom (by rw [hby]; omega) (by rw [hby]; omega)
 obtain ⟨zs, hz1, hz2⟩ : ∃ zs : List Value, zs.length = (grownCap w (n + 1) c 29 - (n + 1)) * 5 ∧ (w.drew.alloc (.cells (olds.toArray ++ vs.toArray ++ Builtin.zeroCells z.cells (grownCap w (n + 1) c 29 - (n + 1))) 29)) = w.drew.alloc (.cells (olds ++ vs ++ zs).toArray 29) :=
  ⟨(Builtin.zeroCells z.cells (grownCap w (n + 1) c 29 - (n + 1))).toList, by simp [Builtin.zeroCells, hzl], congrArg (fun q => w.drew.alloc (.cells q 29)) (by apply Array.toList_inj.1; simp)⟩
 obtain ⟨WW, hWW⟩ : ∃ WW, WW = w.drew.alloc (.cells (olds ++ vs ++ zs).toArray 29) := ⟨_, rfl⟩
 obtain ⟨H, hH⟩ : ∃ H, H = w.heap.size := ⟨_, rfl⟩
 obtain ⟨G, hG⟩ : ∃ G, G = grownCap w (n + 1) c 29 := ⟨_, rfl⟩
 have key : Calls Tryd.prog 18 #[.slice base n c, .int .i64 n, .slice (some ⟨vb, vo, none⟩) 1 vc] w fun e w' => e = .returned (.slice (some ⟨H, 0, none⟩) (n + 1) G) ∧ w' = WW := by
  simp only [hz2] at hrun
  rw [← hWW, ← hH, ← hG] at hrun
  clear hz2 hWW hH hG hz1
  have mixed := mixed
  go_enter Tryd.func18, Tryd.ntmps18
  cases base with
  | none =>
   have h0 := hnil rfl
   subst h0
   go_wp2_with (at_builtin; refine Lib.wpList_append_run _ rfl _ _ _ _ rfl _ _ rfl rfl _ _ (hrun _) ?_)
   go_ret
   exact ⟨rfl, rfl⟩
  | some a =>
   obtain ⟨ab, ao, asp⟩ := a
   go_wp2_with (at_builtin; refine Lib.wpList_append_run _ rfl _ _ _ _ rfl _ _ rfl rfl _ _ (hrun _) ?_)
   all_goals (go_ret; exact ⟨rfl, rfl⟩)
 refine key.mono ?_
 rintro e w' ⟨rfl, rfl⟩
 exact ⟨zs, by rw [hH, hG], hz1, hWW⟩
set_option maxHeartbeats 4000000 in
set_option maxRecDepth 100000 in
theorem ins_shift (hb : w.heap[b]? = some (.cells cur 29 (0, 0))) (hv : w.heap[vb]? = some (.cells curv ev (0, 0))) (hne : vb ≠ b) (hi : i < n) (hroom : n + 1 ≤ c) (hc63 : n + 1 ≤ 9223372036854775807) (hfit : o + c * 5 ≤ cur.size)
  (cs : List Value) (hcl : cs.length = (n - i) * 5) (hcs : ∀ j v, cs[j]? = some v → cur[o + i * 5 + j]? = some v) (h1c : ∀ v ∈ cs, v.oneCell' = true) (hvl : vs.length = 5) (hvs : ∀ j v, vs[j]? = some v → curv[vo + j]? = some v) (h1v : ∀ v ∈ vs, v.oneCell' = true) :
  Calls Tryd.prog 18 #[.slice (some ⟨b, o, none⟩) n c, .int .i64 i, .slice (some ⟨vb, vo, none⟩) 1 vc] w fun e w' => e = .returned (.slice (some ⟨b, o, none⟩) (n + 1) c) ∧ w' = (w.drew.setRow b (spl cur (o + (i + 1) * 5) cs)).setRow b (spl (spl cur (o + (i + 1) * 5) cs) (o + i * 5) vs) := by
 obtain ⟨inf, z, hinf, hs, hby, hz, hzl⟩ := infV
 have hmul : (i + 1) * 5 + (n - i) * 5 ≤ c * 5 := by omega
 have hov : ∀ oo lb cb, (callFunc 43 #[.slice (some ⟨vb, vo, none⟩) 1 vc, .slice (some ⟨b, oo, none⟩) lb cb]).run Tryd.prog w = .ok (.value (.bool false)) w := fun oo lb cb => by
  rw [run_callFunc_extern Tryd.func43 (by kernel_rfl) (by kernel_rfl) (by kernel_rfl) (e := Extern.SlicesOverlaps.overlaps #[24, 24] #[4]) (by kernel_rfl),
   Lib.run_overlaps_apart w 24 4 29 Tryd.underlying24 5 (fun w => by simp [sizeOf, typeInfo, hinf, hs]) ⟨vb, vo, none⟩ ⟨b, oo, none⟩ 1 vc lb cb hne _ _ _ _ (shape_of hv) (shape_of hb) (by omega) (frozen_of hv) (frozen_of hv)]
  rfl
 have hbd : w.drew.heap[b]? = some (.cells cur 29 (0, 0)) := hb
 have hcp1 : ∀ ty dc sc, (Builtin.copy_ #[24, 24] ty #[.slice (some ⟨b, o + (i + 1) * 5, none⟩) (n - i) dc, .slice (some ⟨b, o + i * 5, none⟩) (n + 1 - i) sc]).run Tryd.prog w.drew = .ok (goInt ((n - i : Nat) : Int)) (w.drew.setRow b (spl cur (o + (i + 1) * 5) cs)) := fun ty dc sc => by
  have hmin : Nat.min (n + 1 - i) (n - i) = n - i := by simp only [Nat.min_def]; split <;> omega
  have := run_copy_rows (P := Tryd.prog) w.drew 24 24 ty 29 inf Tryd.underlying24 hinf b (o + (i + 1) * 5) (n - i) dc b (o + i * 5) (n + 1 - i) sc cur 29 hbd cs (by rw [hmin, hs]; exact hcl)
   (fun j v hj => by rw [Addr.add_lit, cell_of_row w.drew b _ cur 29 (0, 0) hbd]; exact hcs j v hj) (by omega) h1c
  rw [hmin] at this
  exact this
 obtain ⟨W1, hW1⟩ : ∃ W1, W1 = w.drew.setRow b (spl cur (o + (i + 1) * 5) cs) := ⟨_, rfl⟩
 have hb1 : W1.heap[b]? = some (.cells (spl cur (o + (i + 1) * 5) cs) 29 (0, 0)) := by rw [hW1]; exact setRow_heap w.drew b cur _ 29 _ hbd
 have hv1 : W1.heap[vb]? = some (.cells curv ev (0, 0)) := by rw [hW1, setRow_other w.drew b vb _ hne]; exact hv
 have hsz := spl_size (cur := cur) (o := o + (i + 1) * 5) (cs := cs) (by omega)
 have hcp2 : ∀ ty dc, (Builtin.copy_ #[24, 24] ty #[.slice (some ⟨b, o + i * 5, none⟩) (n + 1 - i) dc, .slice (some ⟨vb, vo, none⟩) 1 vc]).run Tryd.prog W1 = .ok (goInt 1) (W1.setRow b (spl (spl cur (o + (i + 1) * 5) cs) (o + i * 5) vs)) := fun ty dc => by
  have hmin : Nat.min 1 (n + 1 - i) = 1 := by simp only [Nat.min_def]; split <;> omega
  have := run_copy_rows (P := Tryd.prog) W1 24 24 ty 29 inf Tryd.underlying24 hinf b (o + i * 5) (n + 1 - i) dc vb vo 1 vc _ 29 hb1 vs (by rw [hmin, hs]; omega)
   (fun j v hj => by rw [Addr.add_lit, cell_of_row W1 vb _ curv ev (0, 0) hv1]; exact hvs j v hj) (by rw [hsz]; omega) h1v
  rw [hmin] at this
  exact this
 rw [← hW1] at hcp1
 rw [← hW1]
 have mixed := mixed
 have hz2 : ¬ ((i : Int) = (n : Int)) := by omega
 have hw1 : IntKind.i64.wrap ((i : Int) + 1) = (i : Int) + 1 := by rw [IntKind.wrap_i64]; omega
 have hb1 : (0 : Int) ≤ (i : Int) + 1 := by omega
 have hin : i ≤ n := by omega
 have htn : ((i : Int) + 1).toNat = i + 1 := by omega
 have hb2 : ¬ (c = i + 1) := by omega
 have hb3 : (i : Int) ≤ (n : Int) + 1 := by omega
 have hb4 : ¬ (c = i) := by omega
 clear hW1
 go_enter Tryd.func18, Tryd.ntmps18
 go_wp2_with (simp only [hov])
 go_region_law_o (refine step_copy_runI rfl _ _ 24 24 rfl _ _ (by simp [Act.eval, Act.put]) (by simp [Act.eval, Act.put]) (hcp1 _ _ _) ?_)
 go_wp2_with (at_builtin; refine wpList_copy_runI _ rfl _ _ 24 24 rfl _ _ rfl rfl (hcp2 _ _) ?_)
 go_ret
 exact ⟨rfl, rfl⟩
set_option maxHeartbeats 4000000 in
set_option maxRecDepth 100000 in
theorem ins_grow (hb : w.heap[b]? = some (.cells cur 29 (0, 0))) (hv : w.heap[vb]? = some (.cells curv ev (0, 0))) (hi : i < n) (hnc : n ≤ c) (hroom : c < n + 1) (hbig : (n + 1) * 64 ≤ 140737488355328) (hfit : o + c * 5 ≤ cur.size)
  (cs0 cs : List Value) (hcl0 : cs0.length = i * 5) (hcs0 : ∀ j v, cs0[j]? = some v → cur[o + j]? = some v) (hcl : cs.length = (n - i) * 5) (hcs : ∀ j v, cs[j]? = some v → cur[o + i * 5 + j]? = some v) (h1c : ∀ v ∈ cs, v.oneCell' = true) (hvl : vs.length = 5) (hvs : ∀ j v, vs[j]? = some v → curv[vo + j]? = some v) (h1v : ∀ v ∈ vs, v.oneCell' = true) :
  Calls Tryd.prog 18 #[.slice (some ⟨b, o, none⟩) n c, .int .i64 i, .slice (some ⟨vb, vo, none⟩) 1 vc] w fun e w' => ∃ (ROW : Array Value) (W2 : World), e = .returned (.slice (some ⟨w.heap.size, 0, none⟩) (n + 1) (grownCap w (n + 1) c 29)) ∧ ROW.size = grownCap w (n + 1) c 29 * 5 ∧ (∀ j, j < i * 5 → ROW[j]? = cs0[j]?) ∧
   W2 = (w.drew.alloc (.cells ROW 29)).setRow w.heap.size (spl ROW (i * 5) vs) ∧ w' = W2.drew.setRow w.heap.size (spl (spl ROW (i * 5) vs) ((i + 1) * 5) cs) := by
 obtain ⟨inf, z, hinf, hs, hby, hz, hzl⟩ := infV
 have hbw : b < w.heap.size := (Array.getElem?_eq_some_iff.1 hb).1
 have hvw : vb < w.heap.size := (Array.getElem?_eq_some_iff.1 hv).1
 have hkk : (n : Int) + 1 - (i : Int) = ((n + 1 - i : Nat) : Int) := by omega
 have hik : i + (n + 1 - i) = n + 1 := by omega
 have hold : (Builtin.firstCells inf.size i (.slice (some ⟨b, o, none⟩) i c)).run Tryd.prog w.drew = .ok cs0.toArray w.drew := by
  rw [hs]
  exact run_firstCells_some w.drew 5 i ⟨b, o, none⟩ i c cs0 (by omega) (fun j v hj => by
   have hbd : w.drew.heap[b]? = some (.cells cur 29 (0, 0)) := hb
   rw [Addr.add_lit, cell_of_row w.drew b _ cur 29 (0, 0) hbd]; exact hcs0 j v hj)
 have hrz : ∀ ty, (Builtin.append_ #[24, 3] ty #[.slice (some ⟨b, o, none⟩) i c, .int .i64 ((n : Int) + 1 - (i : Int))]).run Tryd.prog w = .ok (.slice (some ⟨w.heap.size, 0, none⟩) (n + 1) (grownCap w (n + 1) c 29)) (w.drew.alloc (.cells (cs0.toArray ++ Builtin.zeroCells z.cells (n + 1 - i) ++ Builtin.zeroCells z.cells (grownCap w (n + 1) c 29 - (n + 1))) 29)) := fun ty => by
  have h := Lib.run_append_grow_zeros w 24 3 ty 29 inf z .i64 .i64 Tryd.underlying24 Tryd.underlying3 hinf hz (some ⟨b, o, none⟩) i c cs0 hold (n + 1 - i) (by omega) (by omega) (by omega) (by omega) (by rw [hby]; omega) (by rw [hby, hik]; exact growslice_fits hroom hbig)
  rw [hik] at h
  rw [hkk]
  exact h
 have hGn : n + 1 ≤ grownCap w (n + 1) c 29 := grownCap_ge w _ _ _
 have hG63 : grownCap w (n + 1) c 29 ≤ 9223372036854775807 := by
  have := grownCap_le_maxLen w (n + 1) c 29 (by unfold maxLen; omega)
  unfold maxLen at this
  omega
 obtain ⟨G, hG⟩ : ∃ G, G = grownCap w (n + 1) c 29 := ⟨_, rfl⟩
 obtain ⟨H, hH⟩ : ∃ H, H = w.heap.size := ⟨_, rfl⟩
 rw [← hG] at hrz hGn hG63 ⊢
 rw [← hH] at hrz hbw hvw ⊢
 obtain ⟨ROW, hROW⟩ : ∃ ROW : Array Value, ROW = cs0.toArray ++ Builtin.zeroCells z.cells (n + 1 - i) ++ Builtin.zeroCells z.cells (G - (n + 1)) := ⟨_, rfl⟩
 rw [← hROW] at hrz
 have hRs : ROW.size = G * 5 := by rw [hROW]; simp [Builtin.zeroCells, hzl, hcl0]; omega
 have hR0 : ∀ j, j < i * 5 → ROW[j]? = cs0[j]? := fun j hj => by
  rw [hROW, Array.getElem?_append_left (by simp; omega), Array.getElem?_append_left (by simp; omega)]; simp
 obtain ⟨W1, hW1⟩ : ∃ W1, W1 = w.drew.alloc (.cells ROW 29) := ⟨_, rfl⟩
 rw [← hW1] at hrz
 have hN : W1.heap[H]? = some (.cells ROW 29 (0, 0)) := by
  rw [hW1, hH]
  show (w.heap.push (.cells ROW 29 (0, 0)))[w.heap.size]? = _
  exact Array.getElem?_push_size
 have hOld : ∀ q, q < H → W1.heap[q]? = w.heap[q]? := fun q hq => by
  rw [hW1]
  show (w.heap.push (.cells ROW 29 (0, 0)))[q]? = _
  rw [Array.getElem?_push, if_neg (by omega)]
 have hmul : (i + 1) * 5 + (n - i) * 5 ≤ G * 5 := by omega
 have hcpA : ∀ ty dc, (Builtin.copy_ #[24, 24] ty #[.slice (some ⟨H, i * 5, none⟩) (n + 1 - i) dc, .slice (some ⟨vb, vo, none⟩) 1 vc]).run Tryd.prog W1 = .ok (goInt 1) (W1.setRow H (spl ROW (i * 5) vs)) := fun ty dc => by
  have hmin : Nat.min 1 (n + 1 - i) = 1 := by simp only [Nat.min_def]; split <;> omega
  have := run_copy_rows (P := Tryd.prog) W1 24 24 ty 29 inf Tryd.underlying24 hinf H (i * 5) (n + 1 - i) dc vb vo 1 vc ROW 29 hN vs (by rw [hmin, hs]; omega)
   (fun j v hj => by rw [Addr.add_lit, cell_of_row W1 vb _ curv ev (0, 0) (by rw [hOld vb hvw]; exact hv)]; exact hvs j v hj) (by omega) h1v
  rw [hmin] at this
  exact this
 obtain ⟨W2, hW2⟩ : ∃ W2, W2 = W1.setRow H (spl ROW (i * 5) vs) := ⟨_, rfl⟩
 rw [← hW2] at hcpA
 have hN2 : W2.drew.heap[H]? = some (.cells (spl ROW (i * 5) vs) 29 (0, 0)) := by rw [hW2]; exact setRow_heap W1 H ROW _ 29 _ hN
 have hb2 : W2.drew.heap[b]? = some (.cells cur 29 (0, 0)) := by
  show W2.heap[b]? = _
  rw [hW2, setRow_other W1 H b _ (by omega), hOld b hbw]; exact hb
 have hsz := spl_size (cur := ROW) (o := i * 5) (cs := vs) (by omega)
 have hcpB : ∀ ty dc sc, (Builtin.copy_ #[24, 24] ty #[.slice (some ⟨H, (i + 1) * 5, none⟩) (n - i) dc, .slice (some ⟨b, o + i * 5, none⟩) (n - i) sc]).run Tryd.prog W2.drew = .ok (goInt ((n - i : Nat) : Int)) (W2.drew.setRow H (spl (spl ROW (i * 5) vs) ((i + 1) * 5) cs)) := fun ty dc sc => by
  have hmin : Nat.min (n - i) (n - i) = n - i := Nat.min_self _
  have := run_copy_rows (P := Tryd.prog) W2.drew 24 24 ty 29 inf Tryd.underlying24 hinf H ((i + 1) * 5) (n - i) dc b (o + i * 5) (n - i) sc _ 29 hN2 cs (by rw [hmin, hs]; exact hcl)
   (fun j v hj => by rw [Addr.add_lit, cell_of_row W2.drew b _ cur 29 (0, 0) hb2]; exact hcs j v hj) (by rw [hsz]; omega) h1c
  rw [hmin] at this
  exact this
 obtain ⟨W3, hW3⟩ : ∃ W3, W3 = W2.drew.setRow H (spl (spl ROW (i * 5) vs) ((i + 1) * 5) cs) := ⟨_, rfl⟩
 rw [← hW3] at hcpB
 have key : Calls Tryd.prog 18 #[.slice (some ⟨b, o, none⟩) n c, .int .i64 i, .slice (some ⟨vb, vo, none⟩) 1 vc] w fun e w' => e = .returned (.slice (some ⟨H, 0, none⟩) (n + 1) G) ∧ w' = W3 := by
  have mixed := mixed
  have hz2 : ¬ ((i : Int) = (n : Int)) := by omega
  have hz3 : (c : Int) < (n : Int) + 1 := by omega
  have hw1 : IntKind.i64.wrap ((i : Int) + 1) = (i : Int) + 1 := by rw [IntKind.wrap_i64]; omega
  have hb1 : (0 : Int) ≤ (i : Int) + 1 := by omega
  have hin : i ≤ n := by omega
  have htn : ((i : Int) + 1).toNat = i + 1 := by omega
  have hGi : ¬ (G = i) := by omega
  have hGim : ¬ (G = i + 1) := by omega
  have hci : ¬ (c = i) := by omega
  have hb3 : (i : Int) ≤ (n : Int) := by omega
  clear hW1 hW2 hW3 hROW hG hH hRs hR0 hN hN2 hb2 hOld hold hkk hik hsz hmul
  go_enter Tryd.func18, Tryd.ntmps18
  go_wp2_with (first
   | (at_builtin; refine Lib.wpList_append_run _ rfl _ _ _ _ rfl _ _ rfl rfl _ _ (hrz _) ?_)
   | (at_builtin; refine wpList_copy_runI _ rfl _ _ 24 24 rfl _ _ rfl rfl (hcpA _ _) ?_)
   | (at_builtin; refine wpList_copy_runI _ rfl _ _ 24 24 rfl _ _ rfl rfl (hcpB _ _ _) ?_))
  go_region_law_o (refine step_copy_runI rfl _ _ 24 24 rfl _ _ (by simp [Act.eval, Act.put]) (by simp [Act.eval, Act.put]) (hcpB _ _ _) ?_)
  go_wp2
  go_ret
  exact ⟨rfl, rfl⟩
 refine key.mono ?_
 rintro e w' ⟨rfl, rfl⟩
 exact ⟨ROW, W2, rfl, hRs, hR0, by rw [hW2, hW1], hW3⟩
end
end Go.Am
