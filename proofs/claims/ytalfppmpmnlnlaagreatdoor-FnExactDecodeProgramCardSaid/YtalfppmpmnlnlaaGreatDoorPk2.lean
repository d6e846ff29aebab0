/- Texts of the proof, joined and shortened. -/
import Derived.Test.YtalfppmpmnlnlaaGreatDoorPk1
import Derived.MapKept
import Derived.Lib.ConvBytes
import Derived.Lib.AtoiErrMem
import Derived.Deep.LoopGhost
set_option linter.unusedVariables false
set_option linter.unusedSimpArgs false
namespace Go.Am
open Go Go.RowKit
section
variable {P : Program} {T : pr} {μ : Mu} {h : List ak} {S : Nat → Prop} {w : World}
theorem p8 (t tx ty e : TypeId) (i : TypeInfo) (d : TypeDesc) (ht : P.underlying t = some (.slice e)) (hx : P.underlying tx = some d) (hd : (∃ e', d = .slice e') ∨ d = .string) (hi : P.info? e = some i)
  (sa : Option Addr) (ph yW : Nat) (xv : Value) (m : Nat) (news : Array Value) (w' : World) (hlen : (Builtin.lenOf xv).run P w = .ok m w) (Wt : (Builtin.firstCells i.size m xv).run P w = .ok news w) (xE : ph + m ≤ yW)
  (wW : match sa with | some a => (storeCells (a.add (ph * i.size)) news.toList).run P w = .ok () w' | none => w' = w) :
  (Builtin.append_ #[t, tx] ty #[.slice sa ph yW, xv]).run P w = .ok (.slice sa (ph + m) yW) w' := by
 rcases hd with ⟨e', rfl⟩ | rfl <;> cases sa with
 | none =>
  have wW : w' = w := wW
  subst wW
  simp [Builtin.append_, run_underlying ht, run_underlying hx, sizeOf, typeInfo, hi, hlen, xE, Wt]
 | some a =>
  have wW : (storeCells (a.add (ph * i.size)) news.toList).run P w = .ok () w' := wW
  simp [Builtin.append_, run_underlying ht, run_underlying hx, sizeOf, typeInfo, hi, hlen, xE, Wt, wW]
theorem tv (t tx ty e : TypeId) (i : TypeInfo) (z : Value) (d : TypeDesc) (ht : P.underlying t = some (.slice e)) (hx : P.underlying tx = some d) (hd : (∃ e', d = .slice e') ∨ d = .string) (hi : P.info? e = some i) (hz : i.zero = some z)
  (sa : Option Addr) (ph yW : Nat) (xv : Value) (m : Nat) (AB news : Array Value) (hlen : (Builtin.lenOf xv).run P w = .ok m w) (I7 : (Builtin.firstCells i.size ph (.slice sa ph yW)).run P w.drew = .ok AB w.drew)
  (Wt : (Builtin.firstCells i.size m xv).run P w.drew = .ok news w.drew) (hg : yW < ph + m) (hb0 : 0 < i.bytes) (wz : (ph + m) * i.bytes ≤ 140737488355328) :
  (Builtin.append_ #[t, tx] ty #[.slice sa ph yW, xv]).run P w = .ok (.slice (some ⟨w.heap.size, 0, none⟩) (ph + m) (grownCap w (ph + m) yW e))
   (w.drew.alloc (.cells (AB ++ news ++ Builtin.zeroCells z.cells (grownCap w (ph + m) yW e - (ph + m))) e)) := by
 have hn : ¬ (ph + m ≤ yW) := by omega
 have hle : ph + m ≤ (ph + m) * i.bytes := Nat.le_mul_of_pos_right _ hb0
 have adu : ¬ (9223372036854775807 < ((ph : Int) + (m : Int))) := by omega
 have adP := growslice_fits hg wz
 have adv : ¬ (281474976710656 < Builtin.nextslicecap (ph + m) yW * i.bytes) := by omega
 rcases hd with ⟨e', rfl⟩ | rfl <;>
  simp [Builtin.append_, run_underlying ht, run_underlying hx, sizeOf, typeInfo, zeroValue, hi, hz, hlen, hn, adu, adv, Question.forced, Wt, I7, newRow, grownCap]
theorem Hz (b off m sz : Nat) (jl : 0 < sz) (g : Nat → List PV) (hl : ∀ i, i < m → (g i).length = sz)
  (bw : ∀ (i j : Nat) (pv : PV), i < m → (g i)[j]? = some pv → ∃ u, w.cell? ⟨b, off + i * sz + j, none⟩ = some u ∧ pf μ h S w pv u) :
  ∃ news : Array Value, news.size = m * sz ∧ (∀ (i j : Nat) (pv : PV), i < m → (g i)[j]? = some pv → ∃ u, news[i * sz + j]? = some u ∧ pf μ h S w pv u) ∧
   (∀ u ∈ news.toList, u.oneCell' = true) ∧ ∀ w', cP w w' → (loadCells ⟨b, off, none⟩ (m * sz)).run P w' = .ok news w' := by
 let F : Nat → Value := fun q => (w.cell? ⟨b, off + q, none⟩).getD undef
 have hF : ∀ (i j : Nat) (pv : PV), i < m → (g i)[j]? = some pv → w.cell? ⟨b, off + (i * sz + j), none⟩ = some (F (i * sz + j)) ∧ pf μ h S w pv (F (i * sz + j)) := fun i j pv hi hj => by
  obtain ⟨u, h1, h2⟩ := bw i j pv hi hj
  have e : off + (i * sz + j) = off + i * sz + j := by omega
  have e2 : F (i * sz + j) = u := by
   show (w.cell? ⟨b, off + (i * sz + j), none⟩).getD undef = u
   rw [e, h1]; rfl
  rw [e2, e]
  exact ⟨h1, h2⟩
 have hq : ∀ q, q < m * sz → ∃ pv, q / sz < m ∧ (g (q / sz))[q % sz]? = some pv := fun q hq => by
  have h1 : q / sz < m := (Nat.div_lt_iff_lt_mul jl).2 hq
  have h2 : q % sz < (g (q / sz)).length := by rw [hl _ h1]; exact afN _ jl
  exact ⟨_, h1, Is h2⟩
 have D1 : ∀ q, q / sz * sz + q % sz = q := fun q => by rw [Nat.mul_comm]; exact Nat.div_add_mod q sz
 refine ⟨((List.range (m * sz)).map F).toArray, by simp, fun i j pv hi hj => ?_, fun u hu => ?_, fun w' ha => ?_⟩
 ·have I8 : j < sz := by rw [← hl i hi]; exact (An.1 hj).1
  have bO : i * sz + j < m * sz := by
   have : (i + 1) * sz ≤ m * sz := aek _ hi
   rw [aeu] at this
   omega
  exact ⟨F (i * sz + j), by simp [bO], (hF i j pv hi hj).2⟩
 ·simp only [aej, afy] at hu
  obtain ⟨q, hql, rfl⟩ := hu
  obtain ⟨pv, h1, h2⟩ := hq q hql
  have := (hF _ _ pv h1 h2).2.c.one
  rwa [D1] at this
 ·refine run_loadCells w' ⟨b, off, none⟩ (m * sz) F fun q hql => ?_
  obtain ⟨pv, h1, h2⟩ := hq q hql
  have := (hF _ _ pv h1 h2).1
  rw [D1] at this
  rw [Addr.add_lit]
  exact ha.cell this
theorem KL : ∀ {l : List PV}, noO l = true → ∀ {j : Nat} {pv : PV}, l[j]? = some pv → ef pv = false
 | [], _, j, pv, hj => by simp at hj
 | c :: r, h, 0, pv, hj => by
  simp at hj
  subst hj
  cases c <;> first | rfl | cases h
 | c :: r, h, j + 1, pv, hj => KL (l := r) (by cases c <;> first | exact h | cases h) ahI
def Src (P : Program) (μ : Mu) (h : List ak) (S : Nat → Prop) (w : World) (xv : Value) (sz m : Nat) (g : Nat → List PV) : Prop :=
 (∀ i, i < m → (g i).length = sz) ∧ ∃ news : Array Value, news.size = m * sz ∧ (∀ (i j : Nat) (pv : PV), i < m → (g i)[j]? = some pv → ∃ u, news[i * sz + j]? = some u ∧ pf μ h S w pv u) ∧
  (∀ u ∈ news.toList, u.oneCell' = true) ∧ ∀ w', cP w w' → (Builtin.lenOf xv).run P w' = .ok m w' ∧ (Builtin.firstCells sz m xv).run P w' = .ok news w'
theorem Src.empty (xv : Value) (sz : Nat) (g : Nat → List PV) (hx : ∃ a c, xv = .slice a 0 c) : Src P μ h S w xv sz 0 g := by
 obtain ⟨a, c, rfl⟩ := hx
 refine ⟨fun i hi => absurd hi ahw, #[], by simp, fun i j pv hi => absurd hi ahw, fun u hu => by simp at hu, fun w' _ => ⟨rfl, ?_⟩⟩
 cases a with
 | none => rfl
 | some a => simp [Builtin.firstCells, loadCells, loadCellsFrom]
theorem yX (hc : Core μ h S w) (id g off len sz n : Nat) (e : TypeId) (f : Nat → List PV) (hh : h[id]? = some (ak.row g sz n e f)) (v : Value) (hv : bN μ h S w (.own id g off len) v) (jl : 0 < sz) : Src P μ h S w v sz len (fun i => f (off + i)) := by
 have hr := hv.sO
 unfold bL at hr
 rw [hh] at hr
 obtain ⟨_, _, hr⟩ := hr
 obtain ⟨hle, hr⟩ := hr rfl
 obtain ⟨hl, bw⟩ := hc.heap id g sz n e f hh
 cases iL : μ id with
 | none =>
  rw [iL] at hr bw
  have hn : n = 0 := bw
  have h0 : len = 0 := by omega
  subst h0
  exact Src.empty v sz _ ⟨_, _, hr⟩
 | some p =>
  obtain ⟨b, base⟩ := p
  rw [iL] at hr bw
  obtain ⟨ad, cap, hv, VR, xz, Ja⟩ := hr
  obtain ⟨cur, pV, wz, lk⟩ := cH.cells Ja bw
  rcases aeJ len with h0 | h0
  ·subst h0
   exact Src.empty v sz _ ⟨_, _, hv⟩
  ·have xz := xz ahw
   subst xz
   obtain ⟨news, q1, q2, q3, q4⟩ := Hz (P := P) (μ := μ) (h := h) (S := S) (w := w) b (base + off * sz) len sz jl (fun i => f (off + i)) (fun i hi => hl _ ahw) (fun i j pv hi hj => by
    obtain ⟨u, r1, r2⟩ := lk (off + i) j pv ahw hj
    refine ⟨u, ?_, r2⟩
    rw [cell_of_row w b _ cur e (0, 0) pV, ← r1]
    congr 1
    rw [aeu]
    omega)
   exact ⟨fun i hi => hl _ ahw, news, q1, q2, q3, fun w' ha => ⟨by rw [hv]; rfl, by rw [hv]; exact q4 w' ha⟩⟩
theorem yY (hc : Core μ h S w) (x : PV) (xv : Value) (hx : bN μ h S w x xv) (sz : Nat) (jl : 0 < sz) (K : Nat → (Nat → List PV) → Prop) (hp : HA x h sz K) : ∃ m g, K m g ∧ Src P μ h S w xv sz m g ∧ ∀ (i j : Nat) (pv : PV), i < m → (g i)[j]? = some pv → ef pv = false := by
 unfold HA at hp
 split at hp
 ·exact ⟨_, _, hp, Src.empty _ _ _ ⟨_, _, hx.rJ⟩, fun i j pv hi => absurd hi (aey _)⟩
 ·rename_i cf m g
  replace hp := bF hp
  obtain ⟨Dd, hp⟩ := hp
  obtain rfl := adW Dd
  refine ⟨m, g, hp, ?_⟩
  rcases hx.u9 with ⟨a, c, ex, rfl⟩ | ⟨b, off, c, vf, ex, hS, hl, UO, bw, nH⟩
  ·exact ⟨Src.empty _ _ _ ⟨_, _, ex⟩, fun i j pv hi => absurd hi (aey _)⟩
  ·obtain ⟨news, q1, q2, q3, q4⟩ := Hz (P := P) (μ := μ) (h := h) (S := S) (w := w) b off m sz jl g hl (fun i j pv hi hj => ⟨_, bw i j pv hi hj, (bZ.kG (nH i j pv hi hj)).k (aV.no (nH i j pv hi hj))⟩)
   exact ⟨⟨hl, news, q1, q2, q3, fun w' ha => ⟨by rw [ex]; rfl, by rw [ex]; exact q4 w' ha⟩⟩, fun i j pv hi hj => aV.no (nH i j pv hi hj)⟩
 ·rename_i id gen off m
  split at hp
  ·rename_i g cf n e f hg
   obtain ⟨rfl, xp, hp⟩ := hp
   replace hp := bF hp
   obtain ⟨Dd, hp⟩ := hp
   obtain rfl := adW Dd
   exact ⟨m, _, hp, yX hc id g off m sz n e f (fH hg) xv hx jl, fun i j pv hi hj => KL (xp i hi) hj⟩
  ·exact agR
 ·rename_i s
  replace hp := bF hp
  obtain ⟨Dd, hp⟩ := hp
  obtain rfl := adW Dd
  refine ⟨_, _, hp, ⟨fun i hi => rfl, (s.map fun b => Value.int .u8 b.toNat).toArray, by simp, fun i j pv hi hj => ?_, fun u hu => ?_, fun w' _ => ⟨by rw [hx.nd]; rfl, ?_⟩⟩, fun i j pv hi hj => ?_⟩
  ·cases j with
   | zero =>
    simp at hj
    subst hj
    refine ⟨.int .u8 (s.getD i 0).toNat, ?_, aV.int _ _⟩
    rw [adY, Is hi]
    simp [hi]
   | succ j => simp at hj
  ·simp at hu
   obtain ⟨b, _, rfl⟩ := hu
   rfl
  ·rw [hx.nd]
   have e1 : (ByteArray.mk ⟨s⟩).extract 0 s.length = ByteArray.mk ⟨s⟩ := by rw [zT]; simp
   simp only [Builtin.firstCells, e1]
   simp
  ·cases j with
   | zero => simp at hj; subst hj; rfl
   | succ j => simp at hj
 ·exact agR
end
section
variable {P : Program} {T : pr} {μ : Mu} {h : List ak} {S : Nat → Prop} {w : World}
theorem Dn (hc : Core μ h S w) (id g g1 sz n : Nat) (e : TypeId) (f f1 : Nat → List PV) (hh : h[id]? = some (ak.row g sz n e f)) (iL : μ id = none) (hg : g < g1) :
  Fr μ h S w μ (h.set id (.row g1 sz 0 e f1)) S w ∧ Core μ (h.set id (.row g1 sz 0 e f1)) S w := by
 have hid : id < h.length := (An.1 hh).1
 have kh : (h.set id (ak.row g1 sz 0 e f1))[id]? = some (ak.row g1 sz 0 e f1) := by simp [hid]
 have di : ∀ j, j ≠ id → (h.set id (ak.row g1 sz 0 e f1))[j]? = h[j]? := fun j hj => by rw [aeF (aff hj)]
 have AD : ∀ b, CP μ (h.set id (ak.row g1 sz 0 e f1)) b → CP μ h b := fun b hb => by
  obtain ⟨j, gj, pU, nj, ej, fj, tr, hj, hm⟩ := hb
  by_cases jm : j = id
  ·subst jm; rw [iL] at hm; cases hm
  ·rw [di j jm] at hj; exact ⟨j, gj, pU, nj, ej, fj, tr, hj, hm⟩
 have qn : ∀ j x y b, eg (h.set id (ak.row g1 sz 0 e f1)) j x y b → eg h j x y b := fun j x y b ⟨gj, pU, nj, ej, fj, cf, n', e', f', F', q1, q2, q3, q4⟩ => by
  by_cases jm : j = id
  ·subst jm
   rw [kh] at q1
   injection q1 with q1
   injection q1 with e1 e2 e3 e4 e5
   omega
  ·rw [di j jm] at q1
   exact ahq
 have nh : ∀ b, cQ μ (h.set id (ak.row g1 sz 0 e f1)) b → cQ μ h b := fun b hb => by
  rcases hb with hb | ⟨x, y, z, hb⟩
  ·exact .inl (AD b hb)
  ·exact .inr ⟨x, y, z, qn _ _ _ _ hb⟩
 have lW : Fr μ h S w μ (h.set id (.row g1 sz 0 e f1)) S w := by
  refine ⟨by simp, fun _ _ _ => rfl, fun _ hb => hb, fun _ hb => .inl hb, fun b hb => .inl (nh b hb), adV _, rfl, rfl, rfl, fun j gj pU nj ej fj hj => ?_, fun j hj => ?_, fun _ _ _ iY => iY, fun j gj pU nj ej fj b base hj hm oC => ⟨oC, .inr ⟨⟨_, _, _, _, _, (di j (by rintro rfl; rw [iL] at hm; cases hm)).trans hj⟩, hm⟩⟩, fun _ _ _ _ _ oC => oC⟩
  ·by_cases jm : j = id
   ·subst jm
    rw [hh] at hj
    injection hj with hj
    injection hj with e1 e2 e3 e4 e5
    subst e1 e2 e3 e4 e5
    rw [kh]
    exact ⟨by omega, fun he => absurd he ahw⟩
   ·rw [di j jm, hj]
    exact ahm
  ·have jm : j ≠ id := by rintro rfl; rw [hh] at hj; cases hj
   rw [di j jm]; exact hj
 refine ⟨lW, ⟨fun j gj pU nj ej fj hj => ?_, ⟨fun b hb => hc.ok.apart b (nh b hb), fun b hb => hc.ok.lt b (nh b hb), hc.ok.slt, ?_, hc.ok.known, fun b hb x y z hx => hc.ok.hv b (AD b hb) x y z (qn _ _ _ _ hx), fun b _ _ _ _ _ _ hx hy => hc.ok.hh b _ _ _ _ _ _ (qn _ _ _ _ hx) (qn _ _ _ _ hy)⟩⟩⟩
 ·by_cases jm : j = id
  ·subst jm
   rw [kh] at hj
   injection hj with hj
   injection hj with e1 e2 e3 e4 e5
   subst e1 e2 e3 e4 e5
   refine ⟨fun i hi => absurd hi ahw, ?_⟩
   rw [iL]
  ·rw [di j jm] at hj
   obtain ⟨h1, h2⟩ := hc.heap j gj pU nj ej fj hj
   refine ⟨h1, ?_⟩
   cases hm : μ j with
   | none => rw [hm] at h2; exact h2
   | some p =>
    obtain ⟨b, base⟩ := p
    rw [hm] at h2
    obtain ⟨o, q1, q2⟩ := h2
    exact ⟨o, q1, q2.mono (fun _ _ _ _ _ _ hr => hr.fr lW hc.ok (fun _ _ _ _ _ _ _ _ => rfl))⟩
 ·intro i j gi Qm ni ei fi gj pU nj ej fj b o o' hi hj qm pg
  have Ms : i ≠ id := by rintro rfl; rw [iL] at qm; cases qm
  have jm : j ≠ id := by rintro rfl; rw [iL] at pg; cases pg
  rw [di i Ms] at hi
  rw [di j jm] at hj
  exact hc.ok.inj i j _ _ _ _ _ _ _ _ _ _ _ _ _ hi hj qm pg
variable {a : Act} {env : Env} {K : PV → List ak → Prop} {dst : Option Tmp} {ty : TypeId} {pos : String} {after : Array Edge} {guard : Option (Nat × Bool)}
theorem uC (z : Array Value) (n : Nat) : (Builtin.zeroCells z n).size = n * z.size := by simp [Builtin.zeroCells]
theorem ou {s x : Operand} {t tx : TypeId} {sv xv v' : Value} {w' : World} (hs : a.eval s = sv) (hx : a.eval x = xv) (hr : (Builtin.append_ #[t, tx] ty #[sv, xv]).run P w = .ok v' w') :
  (execOp a.eval ⟨dst, .call ⟨.builtin .append, #[s, x], #[t, tx]⟩, ty, pos, after, guard⟩).run P w = .ok (.value v') w' := by
 simp only [execOp, resolve, invoke, builtin, Sem.run_bind, Sem.run_pure, Result.andThen_ok, afC, aec, aep, hs, hx, hr]
theorem Jz {sz l m : Nat} {f q : Nat → List PV} {AB news rest : Array Value} (ho : AB.size = l * sz) (hn : news.size = m * sz)
  (h1 : ∀ (i j : Nat) (pv : PV), i < l → (f i)[j]? = some pv → ∃ u, AB[i * sz + j]? = some u ∧ pf μ h S w pv u)
  (h2 : ∀ (i j : Nat) (pv : PV), i < m → (q i)[j]? = some pv → ∃ u, news[i * sz + j]? = some u ∧ pf μ h S w pv u)
  (C8 : ∀ i, i < l → (f i).length = sz) (E7 : ∀ i, i < m → (q i).length = sz) :
  ∀ (i j : Nat) (pv : PV), i < l + m → (bif Nat.blt i l then f i else q (i - l))[j]? = some pv → ∃ u, (AB ++ news ++ rest)[i * sz + j]? = some u ∧ pf μ h S w pv u := by
 intro i j pv hi hj
 by_cases vb : i < l
 ·have hb : Nat.blt i l = true := by simpa using vb
  rw [hb] at hj
  simp only [cond_true] at hj
  obtain ⟨u, q1, q2⟩ := h1 i j pv vb hj
  have bO : i * sz + j < AB.size := (adZ.1 q1).1
  exact ⟨u, by rw [aeH ahC, aeH bO]; exact q1, q2⟩
 ·have hb : Nat.blt i l = false := by
   cases hh : Nat.blt i l with
   | true => exact (vb (by simpa using hh)).elim
   | false => rfl
  rw [hb] at hj
  simp only [cond_false] at hj
  obtain ⟨u, q1, q2⟩ := h2 (i - l) j pv ahw hj
  have bO : (i - l) * sz + j < news.size := (adZ.1 q1).1
  have hmul : i * sz = l * sz + (i - l) * sz := by rw [← aeu]; congr 1; omega
  refine ⟨u, ?_, q2⟩
  rw [aeH ahC, Array.getElem?_append_right ahw, ← q1]
  congr 1
  omega
theorem O3 {sz l m : Nat} {f q : Nat → List PV} (C8 : ∀ i, i < l → (f i).length = sz) (E7 : ∀ i, i < m → (q i).length = sz) : ∀ i, i < l + m → (bif Nat.blt i l then f i else q (i - l)).length = sz := by
 intro i hi
 by_cases vb : i < l
 ·have hb : Nat.blt i l = true := by simpa using vb
  rw [hb]; exact C8 i vb
 ·have hb : Nat.blt i l = false := by
   cases hh : Nat.blt i l with
   | true => exact (vb (by simpa using hh)).elim
   | false => rfl
  rw [hb]; exact E7 _ ahw
theorem yZ (w : World) (o : Obj) : cP w (w.drew.alloc o) := (cP.drew w).trans (mz w.drew o)
theorem HB (hT : dJ P T) (hc : Core μ h S w) (t tx e sz bytes : Nat) (zero : List PV) (d : TypeDesc) (gY : T.get t = .slice e sz bytes zero) (wA : P.underlying tx = some d) (hd : (∃ e', d = .slice e') ∨ d = .string)
  (s x : Operand) (hs : a.eval s = .slice none 0 0) (m : Nat) (g : Nat → List PV) (Cd : Src P μ h S w (a.eval x) sz m g) (hgo : ∀ (i j : Nat) (pv : PV), i < m → (g i)[j]? = some pv → ef pv = false) (hb : m * bytes ≤ 140737488355328) (hK : K (.own h.length 0 0 m) (h ++ [.row 0 sz m e g])) :
  gQ P ⟨dst, .call ⟨.builtin .append, #[s, x], #[t, tx]⟩, ty, pos, after, guard⟩ a μ h S w K := by
 obtain ⟨hu, jl, inf, zv, mG, qk, SM, hz, Qj, Qk, Oo⟩ := hT.slice _ _ _ _ _ gY
 have hbp := hT.bytes _ _ _ _ _ gY
 subst qk SM
 obtain ⟨hl, news, q1, q2, q3, q4⟩ := Cd
 rcases aeJ m with h0 | h0
 ·subst h0
  have hn : news = #[] := aeX (by simpa using q1)
  subst hn
  obtain ⟨r1, r2⟩ := q4 w (cP.refl w)
  have hr := p8 (P := P) (w := w) t tx ty e inf d hu wA hd mG none 0 0 (a.eval x) 0 #[] w r1 r2 (adV _) rfl
  obtain ⟨lW, tt⟩ := rL (w1 := w) hc inf.size 0 e g none rfl (cP.refl w) hl hgo
  refine gQ.jI (ou hs rfl hr) hK ?_ tt lW
  show bL _ _ _ _ _ _ _ _
  unfold bL
  rw [aen (adV _), aeR]
  refine ⟨⟨_, _, _, rfl⟩, adV _, fun _ => ⟨by omega, ?_⟩⟩
  rw [cr]
 ·obtain ⟨r1, _⟩ := q4 w (cP.refl w)
  obtain ⟨_, r2⟩ := q4 w.drew (cP.drew w)
  have hr := tv (P := P) (w := w) t tx ty e inf zv d hu wA hd mG hz none 0 0 (a.eval x) m #[] news r1 rfl r2 ahw hbp (by rw [adX]; exact hb)
  rw [adX] at hr
  obtain ⟨lW, tt⟩ := rL (w1 := w.drew.alloc (.cells (#[] ++ news ++ Builtin.zeroCells zv.cells (grownCap w m 0 e - m)) e)) hc inf.size m e g (some (w.heap.size, 0))
   ⟨adV _, _, heap_alloc_new w.drew _, by simp [q1], fun i j pv hi hj => by
    obtain ⟨u, p1, p2⟩ := q2 i j pv hi hj
    have bO := (adZ.1 p1).1
    exact ⟨u, by rw [afu, adX, aeH bO]; exact p1, p2.c⟩⟩ (yZ w _) hl hgo
  refine gQ.jI (ou hs rfl hr) hK ?_ tt lW
  show bL _ _ _ _ _ _ _ _
  unfold bL
  rw [aen (adV _), aeR]
  refine ⟨⟨_, _, _, rfl⟩, adV _, fun _ => ⟨by omega, ?_⟩⟩
  rw [cr]
  have Ql := grownCap_ge w m 0 e
  refine ⟨_, grownCap w m 0 e, rfl, Ql, fun _ => by simp, _, e, heap_alloc_new w.drew _, ?_⟩
  simp only [afL, uC, Qj, q1]
  simp only [adX]
  have : grownCap w m 0 e * inf.size = m * inf.size + (grownCap w m 0 e - m) * inf.size := by rw [← aeu]; congr 1; omega
  simp
  omega
theorem JA (hT : dJ P T) (hc : Core μ h S w) (t tx e sz bytes : Nat) (zero : List PV) (d : TypeDesc) (gY : T.get t = .slice e sz bytes zero) (wA : P.underlying tx = some d) (hd : (∃ e', d = .slice e') ∨ d = .string)
  (s x : Operand) (id g off len n : Nat) (f : Nat → List PV) (hh : h[id]? = some (ak.row g sz n e f)) (hs : bN μ h S w (.own id g off len) (a.eval s)) (m : Nat) (q : Nat → List PV) (Cd : Src P μ h S w (a.eval x) sz m q) (Wu : ∀ (i j : Nat) (pv : PV), i < m → (q i)[j]? = some pv → ef pv = false)
  (hb : (len + m) * bytes ≤ 140737488355328)
  (hK : K (.own id (g + 1) 0 (len + m)) (h.set id (.row (g + 1) sz (len + m) e (fun i => bif Nat.blt i len then f (off + i) else q (i - len))))) :
  gQ P ⟨dst, .call ⟨.builtin .append, #[s, x], #[t, tx]⟩, ty, pos, after, guard⟩ a μ h S w K := by
 obtain ⟨hu, jl, inf, zv, mG, qk, SM, hz, Qj, Qk, Oo⟩ := hT.slice _ _ _ _ _ gY
 have hbp := hT.bytes _ _ _ _ _ gY
 subst qk SM
 have hid : id < h.length := (An.1 hh).1
 obtain ⟨C8, AB, o1, o2, o3, o4⟩ := yX (P := P) hc id g off len inf.size n e f hh _ hs jl
 obtain ⟨E7, news, q1, q2, q3, q4⟩ := Cd
 have S9 := O3 C8 E7
 have hjo : ∀ {sl : Nat}, off + sl ≤ n → ∀ (i j cf n' : Nat) (e' : TypeId) (f' : Nat → List PV) (F' : Nat → Prop), i < sl + m → (bif Nat.blt i sl then f (off + i) else q (i - sl))[j]? = some (.bf cf n' e' f' F') → off + i < n ∧ (f (off + i))[j]? = some (.bf cf n' e' f' F') := fun {sl} QZ i j cf n' e' f' F' hi hj => by
  by_cases vb : i < sl
  ·have hb : Nat.blt i sl = true := by simpa using vb
   rw [hb] at hj
   exact ⟨by omega, hj⟩
  ·have hb : Nat.blt i sl = false := by
    cases hh : Nat.blt i sl with
    | true => exact (vb (by simpa using hh)).elim
    | false => rfl
   rw [hb] at hj
   have := Wu (i - sl) j _ ahw hj
   cases this
 have AE := hs.sO
 unfold bL at AE
 rw [hh] at AE
 obtain ⟨⟨sa, sl, tK, LN⟩, _, AE⟩ := AE
 obtain ⟨hle, AE⟩ := AE rfl
 have DA : sl = len := by
  obtain ⟨e1, _⟩ := o4 w (cP.refl w)
  rw [LN] at e1
  simp [Builtin.lenOf] at e1
  exact e1
 subst DA
 obtain ⟨hl, bw⟩ := hc.heap id g _ n e f hh
 have Q1 : ∀ b base, μ id = some (b, base) → ¬ sP w b := fun b base iL => by
  rw [iL] at AE
  obtain ⟨_, _, _, _, _, iY⟩ := AE
  exact iY.Fs
 by_cases xE : sl + m ≤ tK
 ·-- in place
  obtain ⟨r1, r2⟩ := q4 w (cP.refl w)
  cases iL : μ id with
  | none =>
   rw [iL] at AE bw
   rw [LN] at AE
   injection AE with e1 e2 e3
   subst e1 e2 e3
   have hm : m = 0 := by omega
   subst hm
   have hn : news = #[] := aeX (by simpa using q1)
   subst hn
   have hr := p8 (P := P) (w := w) t tx ty e inf d hu wA hd mG none 0 0 (a.eval x) 0 #[] w r1 r2 (adV _) rfl
   obtain ⟨lW, tt⟩ := Dn hc id g (g + 1) inf.size n e f (fun i => bif Nat.blt i 0 then f (off + i) else q (i - 0)) hh iL (Nat.lt_succ_self g)
   refine gQ.jI (ou LN rfl hr) hK ?_ tt lW
   show bL _ _ _ _ _ _ _ _
   unfold bL
   rw [afe hid]
   refine ⟨⟨_, _, _, rfl⟩, adV _, fun _ => ⟨by omega, ?_⟩⟩
   rw [iL]
  | some p =>
   obtain ⟨b, base⟩ := p
   rw [iL] at AE bw
   obtain ⟨ad, cap, hv, VR, xz, iY⟩ := AE
   rw [LN] at hv
   injection hv with e1 e2 e3
   subst e1 e3
   obtain ⟨cur, pV, wz, lk⟩ := cH.cells iY bw
   have O4 : base + (off + tK) * inf.size ≤ cur.size := by
    obtain ⟨Jg, e', p1, p2⟩ := iY
    rw [pV] at p1
    injection p1 with p1
    injection p1 with p1 _ _
    subst p1
    exact p2
   rw [aeu] at O4
   have key : ∃ ql : Array Value, ql.size = cur.size ∧ (match (some ad : Option Addr) with | some a => (storeCells (a.add (sl * inf.size)) news.toList).run P w = .ok () (w.setRow b ql) | none => w.setRow b ql = w) ∧
     ∀ k, ql[k]? = if base + off * inf.size + sl * inf.size ≤ k ∧ k < base + off * inf.size + sl * inf.size + m * inf.size then news[k - (base + off * inf.size + sl * inf.size)]? else cur[k]? := by
    rcases aeJ m with h0 | h0
    ·subst h0
     have hn : news = #[] := aeX (by simpa using q1)
     subst hn
     refine ⟨cur, rfl, ?_, fun k => by rw [if_neg ahw]⟩
     show (storeCells (ad.add (sl * inf.size)) []).run P w = .ok () (w.setRow b cur)
     rw [setRow_self w b cur e (0, 0) pV]
     rfl
    ·have xz := xz ahw
     subst xz
     have hmul : (sl + m) * inf.size ≤ tK * inf.size := aek _ xE
     rw [aeu] at hmul
     have wW := run_storeCells_at P b (base + off * inf.size + sl * inf.size) e news.toList 0 cur w pV ahC q3
     rw [aeO] at wW
     refine ⟨(cur.toList.take (base + off * inf.size + sl * inf.size) ++ news.toList ++ cur.toList.drop (base + off * inf.size + sl * inf.size + news.toList.length)).toArray, ?_, ?_, fun k => ?_⟩
     ·simp; omega
     ·show (storeCells ((⟨b, base + off * inf.size, none⟩ : Addr).add (sl * inf.size)) news.toList).run P w = .ok () _
      rw [Addr.add_lit]
      exact wW
     ·have UK := wC cur.toList news.toList (base + off * inf.size + sl * inf.size) k ahC
      rw [afF, UK]
      simp only [aes, aeL, q1]
   obtain ⟨ql, c1, c2, c3⟩ := key
   have hr := p8 (P := P) (w := w) t tx ty e inf d hu wA hd mG (some ad) sl tK (a.eval x) m news (w.setRow b ql) r1 r2 xE c2
   have hmul : (sl + m) * inf.size ≤ tK * inf.size := aek _ xE
   rw [aeu] at hmul
   have pW := xC (w1 := w.setRow b ql) hc id g (g + 1) inf.size n (sl + m) e f (fun i => bif Nat.blt i sl then f (off + i) else q (i - sl)) hh b (base + off * inf.size) ql ahw (fun he => absurd he ahw)
    (.inr ⟨base, cur, iL, pV, c1.symm⟩) (setRow_heap w b cur _ e _ pV) (by rw [c1, aeu]; omega) (fun b' _ rZ => setRow_other w b b' _ rZ) ahy rfl rfl rfl S9 Q1
    (fun i j pv hi hj => by
     have I8 : j < inf.size := by rw [← S9 i hi]; exact (An.1 hj).1
     rw [c3]
     by_cases vb : i < sl
     ·have hbl : Nat.blt i sl = true := by simpa using vb
      rw [hbl] at hj
      simp only [cond_true] at hj
      have qm : (i + 1) * inf.size ≤ sl * inf.size := aek _ vb
      rw [aeu] at qm
      rw [if_neg ahw]
      obtain ⟨u, p1, p2⟩ := lk (off + i) j pv ahw hj
      refine ⟨u, ?_, p2⟩
      rw [← p1]
      congr 1
      rw [aeu]
      omega
     ·have hbl : Nat.blt i sl = false := by
       cases hh' : Nat.blt i sl with
       | true => exact (vb (by simpa using hh')).elim
       | false => rfl
      rw [hbl] at hj
      simp only [cond_false] at hj
      have e1 : i * inf.size = sl * inf.size + (i - sl) * inf.size := by rw [← aeu]; congr 1; omega
      have e2 : (i - sl + 1) * inf.size ≤ m * inf.size := aek _ ahw
      rw [aeu] at e2
      rw [if_pos ahw]
      obtain ⟨u, p1, p2⟩ := q2 (i - sl) j pv ahw hj
      exact ⟨u, by rw [← p1]; congr 1; omega, p2⟩) off (hjo ahw)
   obtain ⟨lW, tt⟩ := pW
   refine gQ.jI (ou LN rfl hr) hK ?_ tt lW
   show bL _ _ _ _ _ _ _ _
   unfold bL
   rw [afe hid]
   refine ⟨⟨_, _, _, rfl⟩, adV _, fun _ => ⟨by omega, ?_⟩⟩
   rw [cr]
   refine ⟨ad, tK, rfl, xE, fun hc0 => ?_, ql, e, setRow_heap w b cur _ e _ pV, ?_⟩
   ·rw [xz hc0, Nat.zero_mul, aeO]
   ·rw [c1, adX]; omega
 ·-- it grows
  obtain ⟨r1, _⟩ := q4 w (cP.refl w)
  obtain ⟨_, r2⟩ := q4 w.drew (cP.drew w)
  obtain ⟨_, s2⟩ := o4 w.drew (cP.drew w)
  rw [LN] at s2
  have hr := tv (P := P) (w := w) t tx ty e inf zv d hu wA hd mG hz sa sl tK (a.eval x) m AB news r1 s2 r2 ahw hbp hb
  have Ql := grownCap_ge w (sl + m) tK e
  have pW := xC (w1 := w.drew.alloc (.cells (AB ++ news ++ Builtin.zeroCells zv.cells (grownCap w (sl + m) tK e - (sl + m))) e)) hc id g (g + 1) inf.size n (sl + m) e f (fun i => bif Nat.blt i sl then f (off + i) else q (i - sl)) hh
   w.heap.size 0 (AB ++ news ++ Builtin.zeroCells zv.cells (grownCap w (sl + m) tK e - (sl + m))) ahw (fun he => absurd he ahw) (.inl (adV _)) (heap_alloc_new w.drew _)
   (by simp only [afL, o1, q1, aeu]; omega) (fun b bO _ => heap_alloc_old w.drew _ bO) ahy rfl rfl rfl S9 Q1
   (fun i j pv hi hj => by
    rw [adX]
    exact Jz o1 q1 o2 q2 C8 E7 i j pv hi hj) off (hjo ahw)
  obtain ⟨lW, tt⟩ := pW
  refine gQ.jI (ou LN rfl hr) hK ?_ tt lW
  show bL _ _ _ _ _ _ _ _
  unfold bL
  rw [afe hid]
  refine ⟨⟨_, _, _, rfl⟩, adV _, fun _ => ⟨by omega, ?_⟩⟩
  rw [cr]
  refine ⟨_, grownCap w (sl + m) tK e, rfl, Ql, fun _ => by simp, _, e, heap_alloc_new w.drew _, ?_⟩
  simp only [afL, uC, Qj, o1, q1, adX]
  have : grownCap w (sl + m) tK e * inf.size = (sl + m) * inf.size + (grownCap w (sl + m) tK e - (sl + m)) * inf.size := by rw [← aeu]; congr 1; omega
  rw [aeu] at this
  omega
theorem FI (hT : dJ P T) (hc : Core μ h S w) (ht : ∀ t, bN μ h S w (env t) (a.tmps.getD t undef)) (args : Array Operand) (ts : Array TypeId) (hp : pop P T (.call ⟨.builtin .append, args, ts⟩) env h K) :
  gQ P ⟨dst, .call ⟨.builtin .append, args, ts⟩, ty, pos, after, guard⟩ a μ h S w K := by
 obtain ⟨args⟩ := args
 obtain ⟨ts⟩ := ts
 simp only [pop] at hp
 split at hp
 ·rename_i s x t tx
  have hs := bY ht s
  have hx := bY ht x
  have main : ∀ (e sz bytes : Nat) (zero : List PV) (d : TypeDesc), T.get t = .slice e sz bytes zero → P.underlying tx = some d → ((∃ e', d = .slice e') ∨ d = .string) → qN e sz bytes (ev env s) (ev env x) h K →
    gQ P ⟨dst, .call ⟨.builtin .append, #[s, x], #[t, tx]⟩, ty, pos, after, guard⟩ a μ h S w K := by
   intro e sz bytes zero d gY hxu hd hp
   have jl := (hT.slice _ _ _ _ _ gY).2.1
   unfold qN at hp
   split at hp
   ·rename_i hes
    rw [hes] at hs
    obtain ⟨_, g, ⟨hb, m, f', rfl, AW, hK⟩, Cd, hgo⟩ := yY (P := P) hc _ _ hx sz jl _ hp
    exact gQ.rows (HB hT hc t tx e sz bytes zero d gY hxu hd s x hs.rJ m g Cd hgo hb ⟨_, eJ.snoc _ _ _ _ _ _ _ AW, hK⟩)
   ·rename_i id gen off len hes
    rw [hes] at hs
    split at hp
    ·rename_i g cf n e' f hg
     obtain ⟨rfl, hp⟩ := hp
     replace hp := bF hp
     obtain ⟨Dd, hp⟩ := hp
     simp only [so] at Dd
     obtain rfl := adW Dd.1
     obtain rfl := adW Dd.2
     obtain ⟨m, q, ⟨hb, n', f', rfl, AW, hK⟩, Cd, Wu⟩ := yY (P := P) hc _ _ hx sz jl _ hp
     exact gQ.rows (JA hT hc t tx e sz bytes zero d gY hxu hd s x id g off len n f (fH hg) hs m q Cd Wu hb ⟨_, eJ.set _ _ _ _ _ _ _ _ AW, hK⟩)
    ·exact agR
   ·exact agR
  split at hp
  ·rename_i e sz bytes zero e' cf Wv aau gY UY
   exact main e sz bytes zero _ gY (hT.slice _ _ _ _ _ UY).1 (.inl ⟨_, rfl⟩) hp
  ·rename_i e sz bytes zero gY UY
   exact main e sz bytes zero _ gY (hT.str _ UY) (.inr rfl) hp
  ·exact agR
 ·exact agR
theorem bN.Ry {pv : PV} {v : Value} (hr : jX μ h S w pv v) : bN μ h S w pv v := by
 cases pv with
 | fu ps => exact (show False from hr).elim
 | _ => exact hr
theorem JB (hc : Core μ h S w) (ht : ∀ t, bN μ h S w (env t) (a.tmps.getD t undef)) (fo : Operand) (args : Array Operand) (ts : Array TypeId) (hp : pop P T (.call ⟨.value fo, args, ts⟩) env h K) :
  gQ P ⟨dst, .call ⟨.value fo, args, ts⟩, ty, pos, after, guard⟩ a μ h S w K := by
 have I7 := bY ht fo
 simp only [pop] at hp
 split at hp
 ·rename_i f hef
  rw [hef] at I7
  replace hp := bF hp
  obtain ⟨Ta, R, ⟨⟨fn, c, Ri, HC, xO⟩, hA⟩, hK⟩ := hp
  simp only [aeb] at Ta
  have HD := hA w (args.map a.eval) μ S hc.heap hc.ok ahy (fun j pv hj => by
   rw [aem] at hj
   cases hx : args.toList[j]? with
   | none => rw [hx] at hj; cases hj
   | some x =>
    rw [hx] at hj
    injection hj with hj
    subst hj
    refine ⟨a.eval x, by rw [aft]; simp only [aes] at hx; rw [hx]; rfl, ?_⟩
    have hv := bY ht x
    have rZ := Ta x (aef hx)
    cases he : ev env x with
    | fu ps => rw [he] at rZ; cases rZ
    | _ => rw [he] at hv; exact hv)
  intro next Q hn
  have lV : (execOp a.eval ⟨dst, .call ⟨.value fo, args, ts⟩, ty, pos, after, guard⟩).run P w = .ok (.enter f (args.map a.eval)) w := by
   simp only [execOp, resolve, I7.Ol, Deferred.ofValue, invoke, callFunc, Sem.run_bind, Sem.run_pure, Result.andThen_ok, Array.append_empty, afu]
   have Ce : ¬ fn.name = "runtime.NumGoroutine" := by simpa using xO
   simp [program, Sem.run, Result.andThen, Ri, Ce, HC]
  unfold Oper.wp
  rw [lV]
  show Calls P f (args.map a.eval) w _
  refine HD.mono fun e w' ⟨v, res, h', μ', S', he, hR, hv, hH, hM, hF⟩ => ?_
  subst he
  exact hn res v h' μ' S' w' (hK res h' hR) hv ⟨hH, hM⟩ hF
 ·rename_i f bX hef
  rw [hef] at I7
  replace hp := bF hp
  obtain ⟨Ta, R, ⟨⟨fn, c, Ri, HC, xO⟩, hA⟩, hK⟩ := hp
  simp only [aeb] at Ta
  obtain ⟨vs, hvf, hvl, hvc⟩ := (show oJ μ h w f bX (a.eval fo) from I7)
  have HD := hA w (args.map a.eval ++ vs) μ S hc.heap hc.ok (by simp [hvl]) (fun j pv hj => by
   by_cases bO : j < args.size
   ·rw [aew (by simpa using bO), aem] at hj
    cases hx : args.toList[j]? with
    | none => rw [hx] at hj; cases hj
    | some x =>
     rw [hx] at hj
     injection hj with hj
     subst hj
     refine ⟨a.eval x, by rw [aeH (by simpa using bO), aft]; simp only [aes] at hx; rw [hx]; rfl, ?_⟩
     have hv := bY ht x
     have rZ := Ta x (aef hx)
     cases he : ev env x with
     | fu ps => rw [he] at rZ; cases rZ
     | _ => rw [he] at hv; exact hv
   ·rw [aen (by simpa using Nat.le_of_not_lt bO), aem] at hj
    simp only [afs, aeL] at hj
    cases hx : bX[j - args.size]? with
    | none => rw [hx] at hj; cases hj
    | some p =>
     rw [hx] at hj
     injection hj with hj
     subst hj
     obtain ⟨u, q1, q2⟩ := hvc _ p hx
     exact ⟨u, by rw [Array.getElem?_append_right (by simpa using Nat.le_of_not_lt bO)]; simpa using q1, q2⟩)
  intro next Q hn
  have lV : (execOp a.eval ⟨dst, .call ⟨.value fo, args, ts⟩, ty, pos, after, guard⟩).run P w = .ok (.enter f (args.map a.eval ++ vs)) w := by
   simp only [execOp, resolve, hvf, Deferred.ofValue, invoke, callFunc, Sem.run_bind, Sem.run_pure, Result.andThen_ok, afu]
   have Ce : ¬ fn.name = "runtime.NumGoroutine" := by simpa using xO
   simp [program, Sem.run, Result.andThen, Ri, Ce, HC]
  unfold Oper.wp
  rw [lV]
  show Calls P f (args.map a.eval ++ vs) w _
  refine HD.mono fun e w' ⟨v, res, h', μ', S', he, hR, hv, hH, hM, hF⟩ => ?_
  subst he
  exact hn res v h' μ' S' w' (hK res h' hR) hv ⟨hH, hM⟩ hF
 ·exact agR
theorem xS : ∀ (z xs ys : List PV) (b : Bool), DM z xs ys = some b → b = true → ∀ (j : Nat) (p q : PV), xs[j]? = some p → ys[j]? = some q → p = q ∧ ((∃ k n, p = .int k n) ∨ (∃ b, p = .bool b) ∨ ∃ s, p = .str s)
 | z, xs, ys, b, hk, hb, j, p, q, hp, hq => by
  subst hb
  unfold DM at hk
  split at hk
  ·simp at hp
  ·obtain ⟨hg, c, hc, e⟩ := cy hk
   simp only [so] at hg
   obtain rfl := fp hg.1
   obtain rfl := fp hg.2
   have e := e.symm
   simp only [so, beq_iff_eq] at e
   obtain ⟨rfl, rfl⟩ := e
   cases j with
   | zero => simp at hp hq; subst hp; subst hq; exact ⟨rfl, .inl ⟨_, _, rfl⟩⟩
   | succ j => exact xS _ _ _ _ hc rfl j p q ahV aik
  ·obtain ⟨hg, c, hc, e⟩ := cy hk
   have e := e.symm
   simp only [so, beq_iff_eq] at e
   obtain ⟨rfl, rfl⟩ := e
   cases j with
   | zero => simp at hp hq; subst hp; subst hq; exact ⟨rfl, .inr (.inl ⟨_, rfl⟩)⟩
   | succ j => exact xS _ _ _ _ hc rfl j p q ahV aik
  ·obtain ⟨hg, c, hc, e⟩ := cy hk
   have e := e.symm
   simp only [so, beq_iff_eq] at e
   obtain ⟨rfl, rfl⟩ := e
   cases j with
   | zero => simp at hp hq; subst hp; subst hq; exact ⟨rfl, .inr (.inr ⟨_, rfl⟩)⟩
   | succ j => exact xS _ _ _ _ hc rfl j p q ahV aik
  ·cases hk
theorem xT : ∀ (z xs ys : List PV) (b : Bool), DM z xs ys = some b → ys.length = xs.length
 | z, xs, ys, b, hk => by
  unfold DM at hk
  split at hk
  ·rfl
  ·obtain ⟨_, c, hc, _⟩ := cy hk
   simp [xT _ _ _ c hc]
  ·obtain ⟨_, c, hc, _⟩ := cy hk
   simp [xT _ _ _ c hc]
  ·obtain ⟨_, c, hc, _⟩ := cy hk
   simp [xT _ _ _ c hc]
  ·cases hk
theorem JC (s : List UInt8) : ((ByteArray.mk ⟨s⟩) == (ByteArray.mk ⟨s⟩)) = true := by
 show ((Array.mk s) == (Array.mk s)) = true
 simp
theorem y0 (n : Nat) {p : PV} {u v : Value} (hp : (∃ k n, p = .int k n) ∨ (∃ b, p = .bool b) ∨ ∃ s, p = .str s) (hu : tn p u) (hv : bZ μ h S w p v) : Instr.sameBits n u v = true := by
 rcases hp with ⟨k, m, rfl⟩ | ⟨b, rfl⟩ | ⟨s, rfl⟩
 ·have hu : u = _ := hu
  have hv : aV S w (.int k m) v := hv
  cases hv; subst hu
  cases n <;> simp [Instr.sameBits]
 ·have hu : u = _ := hu
  have hv : aV S w (.bool b) v := hv
  cases hv; subst hu
  cases n <;> simp [Instr.sameBits]
 ·have hu : u = _ := hu
  have hv : aV S w (.str s) v := hv
  cases hv; subst hu
  cases n <;> simp [Instr.sameBits, JC]
theorem O5 {ti : TI} {kv kp : PV} {key ek : Value} (VQ : bN μ h S w kv key) (hs : ri kp ek) (hq : lf ti kv kp = some true) : Instr.sameBits 10000 ek key = true := by
 unfold lf at hq
 split at hq
 ·obtain ⟨hg, c, hc, e⟩ := cy hq
  simp only [so] at hg
  obtain rfl := fp hg.1
  obtain rfl := fp hg.2
  have e := e.symm
  simp only [so, beq_iff_eq] at e
  obtain ⟨rfl, _⟩ := e
  exact y0 (μ := μ) (h := h) (S := S) (w := w) 10000 (.inl ⟨_, _, rfl⟩) hs VQ
 ·have hq := aeC hq
  rw [beq_iff_eq] at hq
  subst hq
  exact y0 (μ := μ) (h := h) (S := S) (w := w) 10000 (.inr (.inr ⟨_, rfl⟩)) hs VQ
 ·split at hq
  ·rename_i z xs ys _ _
   obtain ⟨Qg, rfl, x1, x2⟩ := (show jX μ h S w (.agg xs) key from VQ)
   obtain ⟨vys, rfl, y1, y2⟩ := (show ∃ vs : Array Value, ek = .agg vs ∧ vs.size = ys.length ∧ ∀ (j : Nat) (pv : PV), ys[j]? = some pv → ∃ u : Value, vs[j]? = some u ∧ tn pv u from hs)
   have hl := xT _ _ _ _ hq
   rw [show 10000 = 9999 + 1 from rfl, Instr.sameBits]
   rw [so]
   refine ⟨by rw [beq_iff_eq, x1, y1, hl], aeb.2 (fun p hp => ?_)⟩
   obtain ⟨j, hj, rfl⟩ := aeM.1 hp
   have Hc := hj
   rw [List.length_zip, aeL, aeL] at Hc
   have hjx : j < xs.length := by omega
   have hjy : j < ys.length := by omega
   obtain ⟨e1, e2⟩ := xS _ _ _ _ hq rfl j _ _ (Is hjx) (Is hjy)
   obtain ⟨u, hu, Kt⟩ := y2 j _ (Is hjy)
   obtain ⟨v, hv, rq⟩ := x2 j _ (Is hjx)
   rw [← e1] at Kt
   have := y0 9999 e2 Kt rq
   rw [List.getElem_zip]
   simp only [Array.getElem_toList]
   have h1 : vys[j]'ahw = u := by rw [aeq ahw] at hu; exact aeC hu
   have h2 : Qg[j]'ahw = v := by rw [aeq ahw] at hv; exact aeC hv
   rw [h1, h2]
   exact this
  ·cases hq
 ·cases hq
theorem O6 {w1 : World} (hc : Core μ h S w) (id g sz n n1 : Nat) (e : TypeId) (f f1 : Nat → List PV) (hh : h[id]? = some (ak.row g sz n e f)) (b base : Nat) (es : Array MapEntry) (c : Nat) (iL : μ id = some (b, base))
  (hb : w.heap[b]? = some (.map es c)) (O7 : Array MapEntry) (c1 : Nat) (hw : w1.heap[b]? = some (.map O7 c1)) (kH : ∀ b', b' ≠ b → w1.heap[b']? = w.heap[b']?) (BZ : w1.heap.size = w.heap.size) (hos : w1.os = w.os)
  (Ot : w1.tape = w.tape) (Ou : w1.output = w.output) (hl : ∀ i, i < n1 → (f1 i).length = sz)
  (hr : O7.size = n1 ∧ ∀ i, i < n1 → ∃ (kp vp : PV) (en : MapEntry), f1 i = [kp, vp] ∧ kE kp = true ∧ kE vp = true ∧ O7[i]? = some en ∧ ri kp en.key ∧ ri vp en.val) :
  Fr μ h S w μ (h.set id (.row (g + 1) sz n1 e f1)) S w1 ∧ Core μ (h.set id (.row (g + 1) sz n1 e f1)) S w1 := by
 have hid : id < h.length := (An.1 hh).1
 have kh : (h.set id (ak.row (g + 1) sz n1 e f1))[id]? = some (ak.row (g + 1) sz n1 e f1) := by simp [hid]
 have di : ∀ j, j ≠ id → (h.set id (ak.row (g + 1) sz n1 e f1))[j]? = h[j]? := fun j hj => by rw [aeF (aff hj)]
 have Xx : CP μ h b := ⟨id, g, sz, n, e, f, base, hh, iL⟩
 have B2 : cQ μ h b := .inl Xx
 have AD : ∀ b', CP μ (h.set id (ak.row (g + 1) sz n1 e f1)) b' → CP μ h b' := fun b' oI => by
  obtain ⟨j, gj, pU, nj, ej, fj, tr, hj, hm⟩ := oI
  by_cases jm : j = id
  ·subst jm; exact ⟨j, g, sz, n, e, f, tr, hh, hm⟩
  ·rw [di j jm] at hj; exact ⟨j, gj, pU, nj, ej, fj, tr, hj, hm⟩
 have qn : ∀ j x y b, eg (h.set id (ak.row (g + 1) sz n1 e f1)) j x y b → eg h j x y b := fun j x y b ⟨gj, pU, nj, ej, fj, cf, n', e', f', F', q1, q2, q3, q4⟩ => by
  by_cases jm : j = id
  ·subst jm
   rw [kh] at q1
   injection q1 with q1
   injection q1 with e1 e2 e3 e4 e5
   subst e3 e5
   obtain ⟨kp, vp, en, r1, r2, r3, _⟩ := hr.2 x q2
   rw [r1] at q3
   match y, q3 with
   | 0, q3 => simp at q3; rw [q3] at r2; cases r2
   | 1, q3 => simp at q3; rw [q3] at r3; cases r3
   | y + 2, q3 => simp at q3
  ·rw [di j jm] at q1
   exact ahq
 have nh : ∀ b', cQ μ (h.set id (ak.row (g + 1) sz n1 e f1)) b' → cQ μ h b' := fun b' oI => by
  rcases oI with oI | ⟨x, y, z, oI⟩
  ·exact .inl (AD _ oI)
  ·exact .inr ⟨x, y, z, qn _ _ _ _ oI⟩
 have B1 : ∀ j x y b', eg h j x y b' → w1.heap[b']? = w.heap[b']? := fun j x y b' hx => kH b' (by
  rintro rfl
  exact hc.ok.hv b' Xx j x y hx)
 have lW : Fr μ h S w μ (h.set id (.row (g + 1) sz n1 e f1)) S w1 := by
  refine ⟨by simp, fun b' _ xp => kH b' (fun he => xp (he ▸ B2)), fun _ hb => hb, fun _ hb => .inl hb, fun b' oI => .inl (nh b' oI), by omega, hos, Ot, Ou, fun j gj pU nj ej fj hj => ?_, fun j hj => ?_, fun b' k _ iY => ?_, fun j gj pU nj ej fj b' rK hj hm oC => ?_, fun b' j x y hx oC => let ⟨es2, c2, q⟩ := oC; ⟨es2, c2, (B1 j x y b' hx).trans q⟩⟩
  ·by_cases jm : j = id
   ·subst jm
    rw [hh] at hj
    injection hj with hj
    injection hj with e1 e2 e3 e4 e5
    subst e1 e2 e3 e4 e5
    rw [kh]
    exact ⟨by omega, fun he => absurd he ahw⟩
   ·rw [di j jm, hj]
    exact ahm
  ·have jm : j ≠ id := by rintro rfl; rw [hh] at hj; cases hj
   rw [di j jm]; exact hj
  ·have rZ : b' ≠ b := by
    rintro rfl
    exact iY.Fs ⟨es, c, hb⟩
   exact lj.of_same (kH b' rZ) iY
  ·have hex : ∃ g' cf n' e' f', (h.set id (ak.row (g + 1) sz n1 e f1))[j]? = some (ak.row g' cf n' e' f') := by
    by_cases jm : j = id
    ·subst jm; exact ⟨_, _, _, _, _, kh⟩
    ·exact ⟨_, _, _, _, _, (di j jm).trans hj⟩
   refine ⟨?_, .inr ⟨hex, hm⟩⟩
   by_cases Kw : b' = b
   ·subst Kw; exact ⟨O7, c1, hw⟩
   ·obtain ⟨es2, c2, q⟩ := oC
    exact ⟨es2, c2, (kH b' Kw).trans q⟩
 refine ⟨lW, ⟨fun j gj pU nj ej fj hj => ?_, ⟨fun b hb => hc.ok.apart b (nh b hb), fun b hb => by rw [BZ]; exact hc.ok.lt b (nh b hb), fun b hb => by rw [BZ]; exact hc.ok.slt b hb, ?_, hc.ok.B3 lW, fun b hb x y z hx => hc.ok.hv b (AD b hb) x y z (qn _ _ _ _ hx), fun b _ _ _ _ _ _ hx hy => hc.ok.hh b _ _ _ _ _ _ (qn _ _ _ _ hx) (qn _ _ _ _ hy)⟩⟩⟩
 ·by_cases jm : j = id
  ·subst jm
   rw [kh] at hj
   injection hj with hj
   injection hj with e1 e2 e3 e4 e5
   subst e1 e2 e3 e4 e5
   refine ⟨hl, ?_⟩
   rw [iL]
   exact ⟨_, hw, hr⟩
  ·rw [di j jm] at hj
   obtain ⟨h1, h2⟩ := hc.heap j gj pU nj ej fj hj
   refine ⟨h1, ?_⟩
   cases hm : μ j with
   | none => rw [hm] at h2; exact h2
   | some p =>
    obtain ⟨b', rK⟩ := p
    rw [hm] at h2
    obtain ⟨o, q1, q2⟩ := h2
    have Kw : b' ≠ b := by
     rintro rfl
     exact jm (hc.ok.inj j id _ _ _ _ _ _ _ _ _ _ _ _ _ hj hh hm iL)
    exact ⟨o, (kH b' Kw).trans q1, q2.mono (fun i y pv v hi hy hr => hr.fr lW hc.ok (fun cf n' e' f' F' he b2 jo => B1 j i y b2 ⟨_, _, _, _, _, _, _, _, _, _, hj, hi, he ▸ hy, jo⟩))⟩
 ·intro i j gi Qm ni ei fi gj pU nj ej fj b' o o' hi hj qm pg
  have back : ∀ k gk Xy nk ek fk, (h.set id (ak.row (g + 1) sz n1 e f1))[k]? = some (ak.row gk Xy nk ek fk) → ∃ g' cf n' e' f', h[k]? = some (ak.row g' cf n' e' f') := fun k gk Xy nk ek fk hk => by
   by_cases yQ : k = id
   ·subst yQ; exact ⟨_, _, _, _, _, hh⟩
   ·rw [di k yQ] at hk; exact ⟨_, _, _, _, _, hk⟩
  obtain ⟨_, _, _, _, _, h1⟩ := back _ _ _ _ _ _ hi
  obtain ⟨_, _, _, _, _, h2⟩ := back _ _ _ _ _ _ hj
  exact hc.ok.inj i j _ _ _ _ _ _ _ _ _ _ _ _ _ h1 h2 qm pg
theorem LO {w1 : World} (hc : Core μ h S w) (ha : cP w w1) (b : Nat) (hb : w.heap.size ≤ b) (eD : b < w1.heap.size) : Fr μ h S w μ h (fun x => S x ∨ x = b) w1 ∧ Core μ h (fun x => S x ∨ x = b) w1 := by
 have lW : Fr μ h S w μ h (fun x => S x ∨ x = b) w1 := by
  refine ⟨adV _, fun b' oI _ => ha.blocks b' oI, fun _ hs => .inl hs, fun b' oI => ?_, fun _ ho => .inl ho, ha.size, ha.os, ha.tape, ha.output, fun j gj pU nj ej fj hj => ?_, fun _ hd => hd, fun b' k ho iY => ?_, fun j gj pU nj ej fj b' rK hj hm oC => ?_, fun b' j x y hx oC => let ⟨es2, c2, q⟩ := oC; ⟨es2, c2, (ha.blocks b' (hc.ok.lt b' (.inr ⟨j, x, y, hx⟩))).trans q⟩⟩
  ·rcases oI with oI | rfl
   ·exact .inl oI
   ·exact .inr (.inr hb)
  ·rw [hj]; exact ⟨adV _, fun _ => ⟨rfl, rfl, rfl, rfl⟩⟩
  ·exact lj.of_same (ha.blocks b' (hc.ok.lt b' ho)) iY
  ·obtain ⟨es, c, q⟩ := oC
   exact ⟨⟨es, c, (ha.blocks b' (hc.ok.lt b' (.inl ⟨_, _, _, _, _, _, _, hj, hm⟩))).trans q⟩, .inr ⟨⟨_, _, _, _, _, hj⟩, hm⟩⟩
 refine ⟨lW, ⟨fun j gj pU nj ej fj hj => ?_, ⟨fun b' ho hs => ?_, fun b' ho => aet (hc.ok.lt b' ho) ha.size, fun b' hs => ?_, hc.ok.inj, hc.ok.B3 lW, hc.ok.hv, hc.ok.hh⟩⟩⟩
 ·obtain ⟨h1, h2⟩ := hc.heap j gj pU nj ej fj hj
  refine ⟨h1, ?_⟩
  cases hm : μ j with
  | none => rw [hm] at h2; exact h2
  | some p =>
   obtain ⟨b', rK⟩ := p
   rw [hm] at h2
   obtain ⟨o, q1, q2⟩ := h2
   exact ⟨o, (ha.blocks b' (hc.ok.lt b' (.inl ⟨_, _, _, _, _, _, _, hj, hm⟩))).trans q1, q2.mono (fun i y pv v hi hy hr => hr.fr lW hc.ok (fun cf n' e' f' F' he b2 jo => ha.blocks b2 (hc.ok.lt b2 (.inr ⟨j, i, y, _, _, _, _, _, _, _, _, _, _, hj, hi, he ▸ hy, jo⟩))))⟩
 ·rcases hs with hs | rfl
  ·exact hc.ok.apart b' ho hs
  ·exact absurd (hc.ok.lt b' ho) ahw
 ·rcases hs with hs | rfl
  ·exact aet (hc.ok.slt b' hs) ha.size
  ·exact eD
theorem Cf (hT : dJ P T) (hc : Core μ h S w) (ht : ∀ t, bN μ h S w (env t) (a.tmps.getD t undef)) (s d : Nat) (x : Operand) (hp : pop P T (.convert s d x) env h K) : gQ P ⟨dst, .convert s d x, ty, pos, after, guard⟩ a μ h S w K := by
 simp only [pop] at hp
 split at hp
 ·rename_i e sz Oj z b hs hd hx
  split at hp
  ·rename_i he
   obtain ⟨f', AW, hK⟩ := hp
   have hv := bY ht x
   rw [hx] at hv
   have lV := Lib.run_convert_string_bytes (P := P) w s d e ⟨⟨b⟩⟩ (hT.str _ hs) (hT.slice _ _ _ _ _ hd).1 (hT.int _ _ he)
   have hag : cP w (Lib.bytesWorld w e ⟨⟨b⟩⟩) := by
    have := Lib.bytesWorld_below w e ⟨⟨b⟩⟩
    exact ⟨this.block, this.size, this.os, this.tape, this.output⟩
   obtain ⟨lW, tt⟩ := LO hc hag w.heap.size (adV _) (by rw [Lib.bytesWorld_size]; omega)
   refine gQ.jI (val := .slice (some ⟨w.heap.size, 0, none⟩) b.length (grownCap w b.length 0 e)) (dr rfl ?_) hK ?_ tt lW
   ·rw [hv.nd]
    exact lV
   ·show aV _ _ (.gz 1 b.length f') _
    refine .gz 1 b.length f' w.heap.size 0 _ (fun i _ => .int .u8 (b.getD i 0).toNat) (.inr rfl) (fun i hi => by rw [AW i hi]; rfl) ?_ (fun i j pv hi hj => ?_) (fun i j pv hi hj => ?_)
    ·have := grownCap_ge w b.length 0 e; omega
    ·rw [AW i hi] at hj
     have rk : j = 0 := by
      have := (An.1 hj).1
      simpa using this
     subst rk
     have := Lib.bytesWorld_cell w e ⟨⟨b⟩⟩ i (by show i < b.length; exact hi)
     rw [show 0 + i * 1 + 0 = i by omega]
     exact this
    ·rw [AW i hi] at hj
     have rk : j = 0 := by
      have := (An.1 hj).1
      simpa using this
     subst rk
     simp at hj
     subst hj
     exact .int _ _
  ·exact agR
 ·exact .rM hc (nI hT hc.heap ht hp)
theorem Dp (hT : dJ P T) (hc : Core μ h S w) (t : Nat) (hp : pop P T (.makeMap t none) env h K) : gQ P ⟨dst, .makeMap t none, ty, pos, after, guard⟩ a μ h S w K := by
 simp only [pop] at hp
 split at hp
 ·rename_i kt et zv gY
  obtain ⟨f', hK⟩ := hp
  obtain ⟨lW, tt⟩ := DT (w1 := w.alloc (.map #[] 0)) hc 2 0 t f' (some (w.heap.size, 0)) ⟨adV _, _, heap_alloc_new w _, rfl, fun i hi => absurd hi (aey _)⟩ (mz w _) (fun i hi => absurd hi (aey _)) (fun i j pv hi => absurd hi (aey _))
  refine gQ.jI (val := .map (some w.heap.size)) (dr rfl rfl) hK ?_ tt lW
  show gJ _ _ _ _ _
  unfold gJ
  rw [aen (adV _), aeR]
  exact ⟨⟨_, rfl⟩, w.heap.size, 0, cr _ _ _, ⟨_, _, heap_alloc_new w _⟩, rfl⟩
 ·exact agR
theorem xU : ∀ (z xs ys : List PV) (b : Bool), DM z xs ys = some b → xs.all uq = true ∧ xs.all my = true
 | z, xs, ys, b, hk => by
  unfold DM at hk
  split at hk
  ·exact ⟨rfl, rfl⟩
  ·obtain ⟨_, c, hc, _⟩ := cy hk
   obtain ⟨h1, h2⟩ := xU _ _ _ c hc
   simp [uq, my, h1, h2]
  ·obtain ⟨_, c, hc, _⟩ := cy hk
   obtain ⟨h1, h2⟩ := xU _ _ _ c hc
   simp [uq, my, h1, h2]
  ·obtain ⟨_, c, hc, _⟩ := cy hk
   obtain ⟨h1, h2⟩ := xU _ _ _ c hc
   simp [uq, my, h1, h2]
  ·cases hk
theorem O8 {ti : TI} {kv kp : PV} {q : Bool} (h0 : lf ti kv kp = some q) : kE kv = true ∧ storable kv = true := by
 unfold lf at h0
 split at h0
 ·exact ⟨rfl, rfl⟩
 ·exact ⟨rfl, rfl⟩
 ·split at h0
  ·exact xU _ _ _ _ h0
  ·cases h0
 ·cases h0
theorem xV {pv : PV} {v : Value} (hs : uq pv = true) (hj : my pv = true) (hv : bZ μ h S w pv v) : tn pv v := by
 cases pv with
 | int k n => have hv : aV S w (.int k n) v := hv; cases hv; rfl
 | bool b => have hv : aV S w (.bool b) v := hv; cases hv; rfl
 | str s => have hv : aV S w (.str s) v := hv; cases hv; rfl
 | iZ => cases hj
 | _ => cases hs
theorem KM {pv : PV} {v : Value} (hs : kE pv = true) (hj : storable pv = true) (hv : bN μ h S w pv v) : ri pv v := by
 cases pv with
 | agg cs =>
  obtain ⟨vs, rfl, h1, h2⟩ := (show jX μ h S w (.agg cs) v from hv)
  refine ⟨vs, rfl, h1, fun j pv Hc => ?_⟩
  obtain ⟨u, q1, q2⟩ := h2 j pv Hc
  have hm := aef Hc
  exact ⟨u, q1, xV (aeb.1 hs pv hm) (aeb.1 hj pv hm) q2⟩
 | int k n => exact xV (μ := μ) (h := h) (S := S) (w := w) (pv := .int k n) hs hj hv
 | bool b => exact xV (μ := μ) (h := h) (S := S) (w := w) (pv := .bool b) hs hj hv
 | str s => exact xV (μ := μ) (h := h) (S := S) (w := w) (pv := .str s) hs hj hv
 | iZ => cases hj
 | _ => cases hs
theorem FJ {CQ new : Value} {w' : World} (h1 : Instr.sameBits 10000 CQ new = true) : (Instr.keyThatStays CQ new).run P w' = .ok new w' := by
 simp [Instr.keyThatStays, h1]
theorem LP {w : World} {b : Nat} {o o' : Obj} (hb : w.heap[b]? = some o) : ({ w with heap := w.heap.setIfInBounds b o' } : World).heap[b]? = some o' := by
 have := (adZ.1 hb).1
 simp [this]
theorem JD {w : World} {b b' : Nat} {o' : Obj} (hb : b' ≠ b) : ({ w with heap := w.heap.setIfInBounds b o' } : World).heap[b']? = w.heap[b']? := by
 simp [Array.getElem?_setIfInBounds, aff hb]
theorem AF (hT : dJ P T) (hc : Core μ h S w) (ht : ∀ t, bN μ h S w (env t) (a.tmps.getD t undef)) (t : Nat) (m k x : Operand) (hp : pop P T (.mapUpdate t m k x) env h K) :
  gQ P ⟨dst, .mapUpdate t m k x, ty, pos, after, guard⟩ a μ h S w K := by
 have hm := bY ht m
 have hk := bY ht k
 have hx := bY ht x
 simp only [pop] at hp
 split at hp
 ·rename_i kt et zv id gY hem
  rw [hem] at hm
  split at hp
  ·rename_i g sz n e f DN
   replace hp := bF (cp (cp hp))
   obtain ⟨qB, n', f', hup, hK⟩ := hp
   simp only [so] at qB
   obtain ⟨⟨⟨hkk, SI⟩, adw⟩, adx⟩ := qB
   obtain rfl := (adW adx)
   obtain ⟨hu, inf, z, mG, hz, jl, SJ, wW⟩ := hT.map _ _ _ _ gY
   have hh := fH DN
   obtain ⟨bl, base, es, c, iL, ex, hb, hn, Jf⟩ := BN hc.heap hh hm.Fp
   obtain ⟨q0, h0⟩ := Option.isSome_iff_exists.1 hkk
   obtain ⟨d, s, hd, Lu, Oq⟩ := Ku hT hk h0
   obtain ⟨Mw, ady⟩ := O8 h0
   have hkr := KM Mw ady hk
   have hvr := KM SI adw hx
   have xB : ∀ m, m ≤ n → DQ (T.get kt) f m (ev env k) → ∀ j, j < m → ∀ y : MapEntry, es.toList[j]? = some y → uo P kt d s (a.eval k) y.key false := fun m hmn hM j hj y hy => by
    obtain ⟨kp, vp, h1, h2⟩ := hM j hj
    obtain ⟨Xv, Xw, en, h3, _, _, h4, h5, _⟩ := Jf j ahw
    rw [h1] at h3
    injection h3 with e1 e2
    subst e1
    have : y = en := by rw [aes] at hy; exact aeC (hy.symm.trans h4)
    subst this
    exact Oq kp y.key false h5 h2
   have main : ∀ (O7 : Array MapEntry) (c1 : Nat), (Instr.mapUpdate t (.map (some bl)) (a.eval k) (a.eval x)).run P w = .ok () { w with heap := w.heap.setIfInBounds bl (.map O7 c1) } →
     (O7.size = n' ∧ ∀ i, i < n' → ∃ (kp vp : PV) (en : MapEntry), f' i = [kp, vp] ∧ kE kp = true ∧ kE vp = true ∧ O7[i]? = some en ∧ ri kp en.key ∧ ri vp en.val) →
     gQ P ⟨dst, .mapUpdate t m k x, ty, pos, after, guard⟩ a μ h S w K := by
    intro O7 c1 lV hr
    obtain ⟨lW, tt⟩ := O6 (w1 := { w with heap := w.heap.setIfInBounds bl (.map O7 c1) }) hc id g 2 n n' e f f' hh bl base es c iL hb O7 c1 (LP hb) (fun b' oI => JD oI) ahy rfl rfl rfl
     (fun i hi => by obtain ⟨kp, vp, en, h1, _⟩ := hr.2 i hi; rw [h1]; rfl) hr
    refine gQ.Kx ?_ hK tt lW
    have e1 : (execOp a.eval ⟨dst, .mapUpdate t m k x, ty, pos, after, guard⟩) = (do Instr.mapUpdate t (a.eval m) (a.eval k) (a.eval x); pure .skip : Sem Next) := rfl
    rw [e1, ex]
    simp only [Sem.run_bind, lV, Result.andThen, Sem.run_pure]
   rcases hup with ⟨i0, r, ⟨SK, hM, kp0, Q5, Kq⟩, hn1, za, KN⟩ | ⟨hM, hn1, za, KN⟩
   ·obtain ⟨Xv, Xw, en, h3, h8, h6, h4, h5, h7⟩ := Jf i0 SK
    rw [Q5] at h3
    injection h3 with e1 e2
    injection e2 with e2 _
    subst e1 e2
    have BW := BQ (P := P) (w' := w) hd es.toList i0 en (xB i0 ahw hM) (by rw [aes]; exact h4) (Oq kp0 en.key true h5 Kq)
    have aav := FJ (P := P) (w' := w) (O5 hk h5 Kq)
    refine main (es.modify i0 fun e => { e with key := a.eval k, val := a.eval x }) c ?_ ⟨by simp [hn, hn1], fun i hi => ?_⟩
    ·simp [Instr.mapUpdate, run_underlying hu, run_getObj_map w bl es c hb, Lu, BW, h4, aav, MapKept.run_setObj_map _ hb]
    ·by_cases Ms : i = i0
     ·subst Ms
      refine ⟨_, _, { en with key := a.eval k, val := a.eval x }, za, Mw, SI, ?_, hkr, hvr⟩
      rw [Array.getElem?_modify, if_pos rfl, h4]
      rfl
     ·obtain ⟨kp1, vp1, en1, g1, g2, g3, g4, g5, g6⟩ := Jf i ahw
      refine ⟨kp1, vp1, en1, by rw [KN i ahw Ms, g1], g2, g3, ?_, g5, g6⟩
      rw [Array.getElem?_modify, if_neg (aff Ms), g4]
   ·have BW := xx (P := P) (w' := w) hd es.toList (fun j y hy => xB n (adV _) hM j (by
      have := (An.1 hy).1
      rw [← hn]; simpa using this) y hy)
    refine main (es.push { key := a.eval k, val := a.eval x, born := c }) (c + 1) ?_ ⟨by simp [hn, hn1], fun i hi => ?_⟩
    ·simp [Instr.mapUpdate, run_underlying hu, run_getObj_map w bl es c hb, Lu, BW, MapKept.run_setObj_map _ hb]
    ·by_cases Ms : i = n
     ·subst Ms
      refine ⟨_, _, { key := a.eval k, val := a.eval x, born := c }, za, Mw, SI, ?_, hkr, hvr⟩
      rw [← hn]
      simp
     ·obtain ⟨kp1, vp1, en1, g1, g2, g3, g4, g5, g6⟩ := Jf i ahw
      refine ⟨kp1, vp1, en1, by rw [KN i ahw, g1], g2, g3, ?_, g5, g6⟩
      rw [Array.getElem?_push, if_neg ahw, g4]
  ·exact agR
 ·exact agR
theorem FK (hT : dJ P T) (hc : Core μ h S w) (ht : ∀ t, bN μ h S w (env t) (a.tmps.getD t undef)) (bo : BinOp) (t t' : TypeId) (x y : Operand) (hp : pop P T (.binOp bo t x y t') env h K) :
  gQ P ⟨dst, .binOp bo t x y t', ty, pos, after, guard⟩ a μ h S w K := by
 simp only [pop] at hp
 split at hp
 ·rename_i e sz Oj z cf n f gY hx hy
  obtain ⟨h1, h2⟩ := hp
  have rx := bY ht x
  have ry := bY ht y
  rw [hx] at rx
  rw [hy] at ry
  have rx : aV S w (.gz cf n f) (a.eval x) := rx
  have ry : aV S w .aq (a.eval y) := ry
  have ey : a.eval y = .slice none 0 0 := by
   generalize a.eval y = v at ry
   cases ry
   rfl
  obtain ⟨ad, c, ex, hn⟩ : ∃ ad c, a.eval x = .slice ad n c ∧ (ad = none → n = 0) := by
   generalize a.eval x = v at rx
   cases rx with
   | qj _ _ ad c => exact ⟨ad, c, rfl, fun _ => rfl⟩
   | gz _ _ _ b off c vf _ _ _ _ _ => exact ⟨_, c, rfl, fun h0 => by cases h0⟩
  obtain ⟨hu, _⟩ := hT.slice _ _ _ _ _ gY
  have hg : eqGuard .eql t x y (a.eval x) (a.eval y) = pure () := by rw [ex]; apply eqGuard_at_slice
  have hK : K (.bool ad.isNone) h := by
   cases ad with
   | none => exact h1 (hn rfl)
   | some _ => exact h2
  refine .rM hc (.mk (v := .bool ad.isNone) hK (aV.bool _) fun w' _ => zO (Kr hg ?_))
  rw [ex, ey]
  first | exact Lib.run_eql_slice_nil _ _ _ _ _ _ _ _ hu | exact run_eql_slice_nil _ _ _ _ _ _ hu
 ·exact .rM hc (nI hT hc.heap ht hp)
theorem FL {i j : Nat} (h : Nat.blt i j = false) : j ≤ i := by
 rcases aeE i j with hl | hl
 ·have : Nat.blt i j = true := by simpa using hl
  rw [this] at h; cases h
 ·exact hl
theorem D2 {s x : Operand} {t tx : TypeId} {sv xv v' : Value} {w' : World} (hs : a.eval s = sv) (hx : a.eval x = xv) (hr : (Builtin.copy_ #[t, tx] ty #[sv, xv]).run P w = .ok v' w') :
  (execOp a.eval ⟨dst, .call ⟨.builtin .copy, #[s, x], #[t, tx]⟩, ty, pos, after, guard⟩).run P w = .ok (.value v') w' := by
 simp only [execOp, resolve, invoke, builtin, Sem.run_bind, Sem.run_pure, Result.andThen_ok, afC, aec, aep, hs, hx, hr]
theorem HE (t tx ty e : TypeId) (i : TypeInfo) (ht : P.underlying t = some (.slice e)) (hi : P.info? e = some i)
  (sa : Option Addr) (ph yW : Nat) (xv : Value) (m : Nat) (news : Array Value) (w' : World) (hlen : (Builtin.lenOf xv).run P w = .ok m w) (Wt : (Builtin.firstCells i.size m xv).run P w = .ok news w) (hle : m ≤ ph)
  (wW : match sa with | some a => (storeCells a news.toList).run P w = .ok () w' | none => w' = w) :
  (Builtin.copy_ #[t, tx] ty #[.slice sa ph yW, xv]).run P w = .ok (.int .i64 m) w' := by
 have hm : Nat.min m ph = m := Nat.min_eq_left hle
 cases sa with
 | none =>
  have wW : w' = w := wW
  subst wW
  simp [Builtin.copy_, run_underlying ht, sizeOf, typeInfo, hi, hlen, hm, Wt, goInt]
 | some a =>
  have wW : (storeCells a news.toList).run P w = .ok () w' := wW
  simp [Builtin.copy_, run_underlying ht, sizeOf, typeInfo, hi, hlen, hm, Wt, wW, goInt]
theorem O9 (hT : dJ P T) (hc : Core μ h S w) (t tx e sz bytes : Nat) (zero : List PV) (gY : T.get t = .slice e sz bytes zero)
  (s x : Operand) (id g off len n : Nat) (f : Nat → List PV) (hh : h[id]? = some (ak.row g sz n e f)) (hs : bN μ h S w (.own id g off len) (a.eval s)) (m : Nat) (q : Nat → List PV) (Cd : Src P μ h S w (a.eval x) sz m q) (Wu : ∀ (i j : Nat) (pv : PV), i < m → (q i)[j]? = some pv → ef pv = false)
  (hb : m ≤ len) (hK : ∃ h2, eJ (h.set id (.row g sz n e (Rz f off m q))) h2 ∧ K (.int .i64 m) h2) :
  gQ P ⟨dst, .call ⟨.builtin .copy, #[s, x], #[t, tx]⟩, ty, pos, after, guard⟩ a μ h S w K := by
 obtain ⟨hu, jl, inf, zv, mG, qk, SM, hz, Qj, Qk, Oo⟩ := hT.slice _ _ _ _ _ gY
 subst qk SM
 have hid : id < h.length := (An.1 hh).1
 obtain ⟨E7, news, q1, q2, q3, q4⟩ := Cd
 have AE := hs.sO
 unfold bL at AE
 rw [hh] at AE
 obtain ⟨⟨sa, sl, tK, LN⟩, _, AE⟩ := AE
 obtain ⟨hle, AE⟩ := AE rfl
 obtain ⟨C8, AB, o1, o2, o3, o4⟩ := yX (P := P) hc id g off len inf.size n e f hh _ hs jl
 have DA : sl = len := by
  obtain ⟨e1, _⟩ := o4 w (cP.refl w)
  rw [LN] at e1
  simp [Builtin.lenOf] at e1
  exact e1
 subst DA
 obtain ⟨hl, bw⟩ := hc.heap id g _ n e f hh
 obtain ⟨r1, r2⟩ := q4 w (cP.refl w)
 refine gQ.rows ?_
 rcases aeJ m with h0 | h0
 ·subst h0
  have hn : news = #[] := aeX (by simpa using q1)
  subst hn
  have hr := HE (P := P) (w := w) t tx ty e inf hu mG sa sl tK (a.eval x) 0 #[] w r1 r2 (aeo _) (by cases sa <;> rfl)
  obtain ⟨h2, he, hK⟩ := hK
  refine gQ.jI (h' := h) (μ' := μ) (S' := S) (D2 LN rfl hr) ⟨h2, ?_, hK⟩ (.int _ _) hc Fr.refl
  have e0 : Rz f off 0 q = f := by
   funext i
   unfold Rz
   cases xp : Nat.blt i off
   ·rfl
   ·rfl
  rw [e0] at he
  have es : h.set id (ak.row g inf.size n e f) = h := by
   refine List.ext_getElem? fun j => ?_
   rw [afo]
   by_cases hj : id = j
   ·subst hj; rw [if_pos rfl, if_pos hid, hh]
   ·rw [if_neg hj]
  rwa [es] at he
 ·cases iL : μ id with
  | none =>
   rw [iL] at AE
   rw [LN] at AE
   injection AE with e1 e2 e3
   omega
  | some p =>
   obtain ⟨b, base⟩ := p
   rw [iL] at AE bw
   obtain ⟨ad, cap, hv, VR, xz, iY⟩ := AE
   have Q1 : ∀ b base, μ id = some (b, base) → ¬ sP w b := fun b' rK RA => by
    rw [iL] at RA
    injection RA with RA
    injection RA with h1 h2
    subst h1
    exact iY.Fs
   rw [LN] at hv
   injection hv with e1 e2 e3
   subst e1 e3
   obtain ⟨cur, pV, wz, lk⟩ := cH.cells iY bw
   have O4 : base + (off + tK) * inf.size ≤ cur.size := by
    obtain ⟨Jg, e', p1, p2⟩ := iY
    rw [pV] at p1
    injection p1 with p1
    injection p1 with p1 _ _
    subst p1
    exact p2
   rw [aeu] at O4
   have xz := xz ahw
   subst xz
   have hmul : m * inf.size ≤ tK * inf.size := aek _ ahw
   have wW := run_storeCells_at P b (base + off * inf.size) e news.toList 0 cur w pV ahC q3
   rw [aeO] at wW
   generalize Ym : (cur.toList.take (base + off * inf.size) ++ news.toList ++ cur.toList.drop (base + off * inf.size + news.toList.length)).toArray = ql at wW
   have c1 : ql.size = cur.size := by subst Ym; simp; omega
   have c3 : ∀ k : Nat, ql[k]? = if base + off * inf.size ≤ k ∧ k < base + off * inf.size + m * inf.size then news[k - (base + off * inf.size)]? else cur[k]? := fun k => by
    subst Ym
    have UK := wC cur.toList news.toList (base + off * inf.size) k ahC
    rw [afF, UK]
    simp only [aes, aeL, q1]
   have hr := HE (P := P) (w := w) t tx ty e inf hu mG (some ⟨b, base + off * inf.size, none⟩) sl tK (a.eval x) m news (w.setRow b ql) r1 r2 hb wW
   have S9 : ∀ i, i < n → (Rz f off m q i).length = inf.size := fun i hi => by
    unfold Rz
    cases eD : Nat.blt i off
    ·cases jo : Nat.blt i (off + m)
     ·exact hl i hi
     ·have Pa := FL eD
      have Pb : i < off + m := by simpa using jo
      exact E7 _ ahw
    ·exact hl i hi
   have pW := xC (w1 := w.setRow b ql) hc id g g inf.size n n e f (Rz f off m q) hh b base ql (adV _) (fun _ => ⟨iL, rfl⟩)
    (.inr ⟨base, cur, iL, pV, c1.symm⟩) (setRow_heap w b cur _ e _ pV) (by rw [c1]; exact wz) (fun b' _ rZ => setRow_other w b b' _ rZ) ahy rfl rfl rfl S9 Q1
    (fun i j pv hi hj => by
     have I8 : j < inf.size := by rw [← S9 i hi]; exact (An.1 hj).1
     rw [c3]
     have e1 : i * inf.size + inf.size = (i + 1) * inf.size := by rw [aeu, Nat.one_mul]
     unfold Rz at hj
     cases eD : Nat.blt i off
     ·rw [eD] at hj
      have Pa : off ≤ i := FL eD
      have e2 : off * inf.size ≤ i * inf.size := aek _ Pa
      cases jo : Nat.blt i (off + m)
      ·rw [jo] at hj
       simp only [cond_false] at hj
       have Pb : off + m ≤ i := FL jo
       have e3 : (off + m) * inf.size ≤ i * inf.size := aek _ Pb
       rw [aeu] at e3
       rw [if_neg ahw]
       exact lk i j pv hi hj
      ·rw [jo] at hj
       simp only [cond_false, cond_true] at hj
       have Pb : i < off + m := by simpa using jo
       have e3 : (i + 1) * inf.size ≤ (off + m) * inf.size := aek _ Pb
       have e5 : (off + m) * inf.size = off * inf.size + m * inf.size := aeu _ _ _
       rw [if_pos ahw]
       obtain ⟨u, p1, p2⟩ := q2 (i - off) j pv ahw hj
       refine ⟨u, ?_, p2⟩
       rw [← p1]
       congr 1
       have e4 : i * inf.size = off * inf.size + (i - off) * inf.size := by rw [← aeu]; congr 1; omega
       omega
     ·rw [eD] at hj
      simp only [cond_true] at hj
      have Pa : i < off := by simpa using eD
      have e3 : (i + 1) * inf.size ≤ off * inf.size := aek _ Pa
      rw [if_neg ahw]
      exact lk i j pv hi hj) 0 (fun i j cf n' e' f' F' hi hj => by
    rw [adX]
    refine ⟨hi, ?_⟩
    unfold Rz at hj
    cases eD : Nat.blt i off
    ·rw [eD] at hj
     have Pa : off ≤ i := FL eD
     cases jo : Nat.blt i (off + m)
     ·rw [jo] at hj; exact hj
     ·rw [jo] at hj
      have Pb : i < off + m := by simpa using jo
      have := Wu (i - off) j _ ahw hj
      cases this
    ·rw [eD] at hj; exact hj)
   obtain ⟨lW, tt⟩ := pW
   exact gQ.jI (D2 LN rfl hr) hK (.int _ _) tt lW
theorem JE (hT : dJ P T) (hc : Core μ h S w) (ht : ∀ t, bN μ h S w (env t) (a.tmps.getD t undef)) (args : Array Operand) (ts : Array TypeId) (hp : pop P T (.call ⟨.builtin .copy, args, ts⟩) env h K) :
  gQ P ⟨dst, .call ⟨.builtin .copy, args, ts⟩, ty, pos, after, guard⟩ a μ h S w K := by
 obtain ⟨args⟩ := args
 obtain ⟨ts⟩ := ts
 simp only [pop] at hp
 split at hp
 ·rename_i s x t tx
  have hs := bY ht s
  have hx := bY ht x
  have main : ∀ (e sz bytes : Nat) (zero : List PV), T.get t = .slice e sz bytes zero → Cg e sz (ev env s) (ev env x) h K →
    gQ P ⟨dst, .call ⟨.builtin .copy, #[s, x], #[t, tx]⟩, ty, pos, after, guard⟩ a μ h S w K := by
   intro e sz bytes zero gY hp
   have jl := (hT.slice _ _ _ _ _ gY).2.1
   unfold Cg at hp
   split at hp
   ·rename_i id gen off len hes
    rw [hes] at hs
    split at hp
    ·rename_i g cf n e' f hg
     obtain ⟨rfl, hp⟩ := hp
     replace hp := bF hp
     obtain ⟨Dd, hp⟩ := hp
     simp only [so] at Dd
     obtain rfl := adW Dd.1
     obtain rfl := adW Dd.2
     obtain ⟨m, q, ⟨hb, f', AW, hK⟩, Cd, Wu⟩ := yY (P := P) hc _ _ hx sz jl _ hp
     exact O9 hT hc t tx e sz bytes zero gY s x id g off len n f (fH hg) hs m q Cd Wu hb ⟨_, eJ.set _ _ _ _ _ _ _ _ AW, hK⟩
    ·exact agR
   ·exact agR
  split at hp
  ·rename_i e sz bytes zero e' cf Wv aau gY UY
   exact main e sz bytes zero gY hp
  ·rename_i e sz bytes zero gY UY
   exact main e sz bytes zero gY hp
  ·exact agR
 ·exact agR
theorem D3 (hT : dJ P T) (hc : Core μ h S w) (ht : ∀ t, bN μ h S w (env t) (a.tmps.getD t undef)) {op : Op} (hp : pop P T op env h K) :
  gQ P ⟨dst, op, ty, pos, after, guard⟩ a μ h S w K := by
 cases op with
 | store t ad x => exact Hm hT hc ht t ad x hp
 | makeSlice t l c => exact Jh hT hc ht t l c hp
 | box t x => exact LF hc ht t x hp
 | alloc t => exact Ho hT hc t hp
 | buildSlice t len parts => exact yS hT hc ht t len parts hp
 | convert s d x => exact Cf hT hc ht s d x hp
 | binOp bo t x y t' => exact FK hT hc ht bo t t' x y hp
 | makeMap t r => cases r with
  | none => exact Dp hT hc t hp
  | some r => exact hp.elim
 | mapUpdate t m k x => exact AF hT hc ht t m k x hp
 | call c =>
  obtain ⟨Zt, args, ts⟩ := c
  cases Zt with
  | value fo => exact JB hc ht fo args ts hp
  | invoke r m => exact .rM hc (nI hT hc.heap ht hp)
  | builtin b => cases b with
   | append => exact FI hT hc ht args ts hp
   | copy => exact JE hT hc ht args ts hp
   | _ => exact .rM hc (nI hT hc.heap ht hp)
 | _ => exact .rM hc (nI hT hc.heap ht hp)
end
section
variable {P : Program} {T : pr} {μ : Mu} {h η : List ak} {k : List Nat} {S : Nat → Prop} {w : World} {m : Nat}
theorem wE.get : ∀ (l r : List PV), wE h η k l r → r.length = l.length ∧ ∀ (j : Nat) (pv fR : PV), l[j]? = some pv → r[j]? = some fR → Fz h η k pv fR
 | [], [], _ => ⟨rfl, fun j pv fR hj => by simp at hj⟩
 | [], _ :: _, hh => hh.elim
 | _ :: _, [], hh => hh.elim
 | a :: l, b :: r, hh => by
  obtain ⟨h1, h2⟩ := hh
  obtain ⟨q1, q2⟩ := wE.get l r h2
  refine ⟨by simp [q1], fun j pv fR hj Hc => ?_⟩
  cases j with
  | zero =>
   simp at hj Hc
   subst hj Hc
   exact h1
  | succ j => exact q2 j pv fR ahI (by simpa using Hc)
theorem nL : ∀ (l : List ak) (r : List Nat) (i : Nat), p6 h η k m i l r → l.length = r.length ∧ ∀ (j : Nat) (o : ak), l[j]? = some o → ∃ id, r[j]? = some id ∧ vT h η k m o (i + j) id
 | [], [], i, _ => ⟨rfl, fun j o hj => by simp at hj⟩
 | [], _ :: _, _, hh => hh.elim
 | _ :: _, [], _, hh => hh.elim
 | o :: l, id :: r, i, hh => by
  obtain ⟨h1, h2⟩ := hh
  obtain ⟨q1, q2⟩ := nL l r (i + 1) h2
  refine ⟨by simp [q1], fun j o' hj => ?_⟩
  cases j with
  | zero =>
   simp at hj
   subst hj
   exact ⟨id, rfl, h1⟩
  | succ j =>
   simp at hj
   obtain ⟨id', r1, r2⟩ := q2 j o' hj
   exact ⟨id', by simpa using r1, by rw [show i + (j + 1) = i + 1 + j from by omega]; exact r2⟩
def mm (μ : Mu) (h : List ak) (k : List Nat) : Mu := fun id' => match k[id']? with | some id => (match h[id]? with | some _ => μ id | none => none) | none => none
theorem sT {μ : Mu} {h : List ak} {k : List Nat} {id id' : Nat} {o : ak} (hk : k[id']? = some id) (ho : h[id]? = some o) : mm μ h k id' = μ id := by unfold mm; rw [hk]; simp only [ho]
theorem D4 {μ : Mu} {h : List ak} {k : List Nat} {id id' : Nat} (hk : k[id']? = some id) (ho : h[id]? = none) : mm μ h k id' = none := by unfold mm; rw [hk]; simp only [ho]
def D5 (μ : Mu) (h : List ak) (k : List Nat) (S : Nat → Prop) : Nat → Prop :=
 fun b => S b ∨ ∃ (id g sz n : Nat) (e : TypeId) (f : Nat → List PV) (base : Nat), id ∉ k ∧ h[id]? = some (ak.row g sz n e f) ∧ (μ id = some (b, base) ∨ ∃ i j, eg h id i j b)
theorem Pc {S S' : Nat → Prop} {w : World} (hS : ∀ b, S b → S' b) {pv : PV} {v : Value} (h : ml S w pv v) : ∀ fR, AA pv fR → (∀ sz n e f F, pv = .bf sz n e f F → ∀ b, F b → S' b) → aV S' w fR v := by
 induction h with
 | nil sz e f F hF =>
  intro fR ho _
  cases ho
  exact .qj _ _ _ _
 | HF sz n e f F b off c a cur vf hF hb hlen hc ha iY bw nH xD Dq HG ih =>
  intro fR ho hk
  have hk := hk _ _ _ _ _ rfl
  cases ho with
  | mk _ _ _ _ f' _ hl hf hoo hp =>
   rcases aeJ n with h0 | h0
   ·subst h0; exact .qj _ _ _ _
   ·obtain rfl := ha ahw
    have get : ∀ (i j : Nat) (fR : PV), i < n → (f' i)[j]? = some fR → ∃ pv, (f i)[j]? = some pv := fun i j fR hi hj => by
     have H7 : j < (f i).length := by rw [← hl i hi]; exact (An.1 hj).1
     exact ⟨_, Is H7⟩
    refine .gz sz n f' b off c vf (hk b hF) (fun i hi => by rw [hl i hi]; exact hlen i hi) hc (fun i j fR hi hj => ?_) (fun i j fR hi hj => ?_)
    ·obtain ⟨pv, rk⟩ := get i j fR hi hj
     rw [cell_of_row w b _ cur e (0, 0) hb, ← bw i j pv hi rk]
    ·obtain ⟨pv, rk⟩ := get i j fR hi hj
     cases hx : ef pv with
     | false =>
      rw [hf i j pv fR hi rk hj hx]
      rcases nH i j pv hi rk with q | ⟨_, _, _, _, _, q⟩
      ·exact q.mono (fun _ _ => rfl) hS
      ·rw [q] at hx; cases hx
     | true =>
      have hoo := hoo i j pv fR hi rk hj hx
      cases pv with
      | bf qI n2 e2 f2 F2 => exact ih i j qI n2 e2 f2 F2 hi rk fR hoo (fun _ _ _ _ _ he b' oI => by
        injection he with _ _ _ _ he
        subst he
        exact hk b' (Dq i j _ _ _ _ _ hi rk b' oI).1)
      | _ => cases hx
theorem ve {μ' : Mu} {h' : List ak} {S' : Nat → Prop} {pv : PV} {v : Value} (hp : bG pv = true) (hc : bZ μ' h' S' w pv v) : aV S' w pv v := by
 cases pv <;> first | exact hc | cases hp
theorem uD (hc : Core μ h S w) (hh : p6 h η k m 0 η k) {pv fR : PV} (hz : Fz h η k pv fR) :
  (∀ v, bZ μ h S w pv v → bZ (mm μ h k) η (D5 μ h k S) w fR v) ∧ (∀ v, jX μ h S w pv v → jX (mm μ h k) η (D5 μ h k S) w fR v) ∧ (∀ v, bN μ h S w pv v → bN (mm μ h k) η (D5 μ h k S) w fR v) := by
 have up : ∀ pv v, aV S w pv v → aV (D5 μ h k S) w pv v := fun pv v hp => aV.mono (fun _ _ => rfl) (fun b hb => .inl hb) hp
 have same : ∀ pv : PV, (∀ v, bZ μ h S w pv v → aV S w pv v) → (∀ v, jX μ h S w pv v → bZ μ h S w pv v) → (∀ v, bN μ h S w pv v → jX μ h S w pv v) → ∀ fR : PV, (∀ v, aV S w pv v → aV (D5 μ h k S) w fR v) →
   (∀ v, bZ μ h S w pv v → bZ (mm μ h k) η (D5 μ h k S) w fR v) ∧ (∀ v, jX μ h S w pv v → bZ (mm μ h k) η (D5 μ h k S) w fR v) ∧ (∀ v, bN μ h S w pv v → bZ (mm μ h k) η (D5 μ h k S) w fR v) :=
  fun pv h1 h2 h3 fR hp => ⟨fun v hv => bZ.kG (hp v (h1 v hv)), fun v hv => bZ.kG (hp v (h1 v (h2 v hv))), fun v hv => bZ.kG (hp v (h1 v (h2 v (h3 v hv))))⟩
 induction hz with
 | int k' n => exact same (.int k' n) (fun _ h => h) (fun _ h => h) (fun _ h => h) _ (up _)
 | bool b => exact same (.bool b) (fun _ h => h) (fun _ h => h) (fun _ h => h) _ (up _)
 | str s => exact same (.str s) (fun _ h => h) (fun _ h => h) (fun _ h => h) _ (up _)
 | aq => exact same .aq (fun _ h => h) (fun _ h => h) (fun _ h => h) _ (up _)
 | S6 sz f => exact same .aq (fun _ h => h) (fun _ h => h) (fun _ h => h) (.gz sz 0 f) (fun v hv => by cases hv; exact .qj _ _ _ _)
 | aaj id id' g' cf e' f' hk ho hη =>
  have key : ∀ v, v = Value.slice none 0 0 → bL (mm μ h k) η w id' g' 0 0 v := fun v hv => by
   unfold bL
   rw [hη]
   refine ⟨⟨_, _, _, hv⟩, adV _, fun _ => ⟨adV _, ?_⟩⟩
   rw [D4 hk ho]
   exact hv
  have inv : ∀ v, aV S w .aq v → v = Value.slice none 0 0 := fun v hv => by cases hv; rfl
  exact ⟨fun v hv => key v (inv v hv), fun v hv => key v (inv v hv), fun v hv => key v (inv v hv)⟩
 | fn f => exact same (.fn f) (fun _ h => h) (fun _ h => h) (fun _ h => h) _ (up _)
 | gf cs => exact same (.gf cs) (fun _ h => h) (fun _ h => h) (fun _ h => h) _ (up _)
 | gz sz n f f' hf =>
  exact same (.gz sz n f) (fun _ h => h) (fun _ h => h) (fun _ h => h) (.gz sz n f') (fun v hv => by
   have hv := up _ _ hv
   cases hv with
   | qj _ _ a c => exact .qj _ _ _ _
   | gz _ _ _ b off c vf h1 h2 h3 h4 h5 =>
    exact .gz sz n f' b off c vf h1 (fun i hi => by rw [hf i hi]; exact h2 i hi) h3 (fun i j pv hi hj => h4 i j pv hi aid) (fun i j pv hi hj => h5 i j pv hi aid))
 | iZ pv => exact ⟨fun v hv => hv.one, fun _ _ => trivial, fun _ _ => trivial⟩
 | bf sz n e f F => exact ⟨fun v hv => hv, fun v hv => hv, fun v hv => hv⟩
 | LA sz e f => exact ⟨fun v hv => bZ.one hv, fun v hv => bZ.one (pv := .aq) (μ := μ) (h := h) hv, fun v hv => bZ.one (pv := .aq) (μ := μ) (h := h) hv⟩
 | own id id' g g' sz cf n n' off len e e' f f' hk ho hη hn =>
  have key : ∀ v, bL μ h w id g off len v → bL (mm μ h k) η w id' g' off len v := fun v hv => by
   unfold bL at hv ⊢
   rw [ho] at hv
   rw [hη]
   obtain ⟨h1, _, rq⟩ := hv
   have qs := rq rfl
   clear rq
   obtain ⟨h2, h3⟩ := qs
   obtain ⟨_, dk⟩ := nL η k 0 hh
   obtain ⟨RB, r1, r2⟩ := dk id' _ hη
   rw [hk] at r1
   injection r1 with r1
   subst r1
   unfold vT at r2
   rw [ho] at r2
   obtain ⟨_, rfl, _, _⟩ := r2
   refine ⟨h1, adV _, fun _ => ⟨hn, ?_⟩⟩
   have hm : mm μ h k id' = μ id := sT hk ho
   rw [hm]
   exact h3
  exact ⟨key, key, key⟩
 | aG id id' g g' sz cf n n' i off e e' f f' hk ho hη hn =>
  have key : ∀ v, cc μ h w id g i off v → cc (mm μ h k) η w id' g' i off v := fun v hv => by
   unfold cc at hv ⊢
   rw [ho] at hv
   rw [hη]
   obtain ⟨h1, _, rq⟩ := hv
   have qs := rq rfl
   clear rq
   obtain ⟨h2, h3⟩ := qs
   obtain ⟨_, dk⟩ := nL η k 0 hh
   obtain ⟨RB, r1, r2⟩ := dk id' _ hη
   rw [hk] at r1
   injection r1 with r1
   subst r1
   unfold vT at r2
   rw [ho] at r2
   obtain ⟨_, rfl, _, _⟩ := r2
   refine ⟨h1, adV _, fun _ => ⟨hn, ?_⟩⟩
   have hm : mm μ h k id' = μ id := sT hk ho
   rw [hm]
   exact h3
  exact ⟨key, key, key⟩
 | oP f bX xK hl P9 =>
  have key : ∀ v, oJ μ h w f bX v → oJ (mm μ h k) η w f xK v := fun v hv => by
   obtain ⟨vs, h1, h2, h3⟩ := hv
   refine ⟨vs, h1, h2.trans hl.symm, fun j p' hj => ?_⟩
   have bO : j < bX.length := by rw [← hl]; exact (An.1 hj).1
   obtain ⟨hk, ⟨sz, n, e, g, ho⟩, cf, n', e', g', hη, hn⟩ := P9 j _ p' (Is bO) hj
   obtain ⟨u, q1, q2⟩ := h3 j _ (Is bO)
   refine ⟨u, q1, ?_⟩
   unfold cc at q2 ⊢
   rw [ho] at q2
   rw [hη]
   obtain ⟨a1, _, a2⟩ := q2
   have a3 := a2 rfl
   clear a2
   obtain ⟨a4, a5⟩ := a3
   obtain ⟨_, dk⟩ := nL η k 0 hh
   obtain ⟨RB, r1, r2⟩ := dk p'.1 _ hη
   rw [hk] at r1
   injection r1 with r1
   subst r1
   unfold vT at r2
   rw [ho] at r2
   obtain ⟨_, rfl, _, _⟩ := r2
   refine ⟨a1, adV _, fun _ => ⟨hn, ?_⟩⟩
   rw [sT hk ho]
   exact a5
  exact ⟨key, key, key⟩
 | lA id id' g g' sz cf n n' e e' f f' hk ho hη =>
  have key : ∀ v, gJ μ h w id v → gJ (mm μ h k) η w id' v := fun v hv => by
   unfold gJ at hv ⊢
   rw [ho] at hv
   rw [hη]
   obtain ⟨h1, b, base, q1, q2, q3⟩ := hv
   exact ⟨h1, b, base, (sT hk ho).trans q1, q2, q3⟩
  exact ⟨key, key, key⟩
 | Z9 id g sz n off len e f f' hk ho hl hp hf ih =>
  have key : ∀ v, bL μ h w id g off len v → bZ (mm μ h k) η (D5 μ h k S) w (.gz sz len f') v := fun v hv => by
   refine bZ.kG ?_
   unfold bL at hv
   rw [ho] at hv
   obtain ⟨_, _, hv⟩ := hv
   obtain ⟨hle, hv⟩ := hv rfl
   obtain ⟨Yn, bw⟩ := hc.heap id g sz n e f ho
   cases iL : μ id with
   | none =>
    rw [iL] at hv bw
    have hn : n = 0 := bw
    have h0 : len = 0 := by omega
    subst h0
    have hv : v = .slice none 0 0 := hv
    subst hv
    exact .qj _ _ _ _
   | some p =>
    obtain ⟨b, base⟩ := p
    rw [iL] at hv bw
    obtain ⟨ad, cap, rfl, VR, xz, Ja⟩ := hv
    obtain ⟨cur, pV, wz, lk⟩ := cH.cells Ja bw
    rcases aeJ len with h0 | h0
    ·subst h0
     exact .qj _ _ _ _
    ·have xz := xz ahw
     subst xz
     have hcl : ∀ (i j : Nat) (fR : PV), i < len → (f' i)[j]? = some fR → ∃ u, w.cell? ⟨b, base + off * sz + i * sz + j, none⟩ = some u ∧ aV (D5 μ h k S) w fR u := fun i j fR hi hj => by
      have H7 : j < (f (off + i)).length := by rw [← hl i hi]; exact (An.1 hj).1
      have rk := Is H7
      obtain ⟨u, h1, h2⟩ := lk (off + i) j _ ahw rk
      have h3 : aV (D5 μ h k S) w fR u := by
       by_cases hof : AA (f (off + i))[j] fR
       ·generalize hpv : (f (off + i))[j] = pv at hof h2 rk
        cases hof with
        | mk qI n2 e2 f2 f2' F2 a1 a2 a3 a4 =>
         exact Pc (fun b hb => .inl hb) (show ml S w (.bf qI n2 e2 f2 F2) u from h2) _ (.mk qI n2 e2 f2 f2' F2 a1 a2 a3 a4) (fun _ _ _ _ _ he b' oI => by
          injection he with _ _ _ _ he
          subst he
          exact .inr ⟨id, g, sz, n, e, f, base, hk, ho, .inr ⟨off + i, j, _, _, _, _, _, _, _, _, _, _, ho, by omega, rk, oI⟩⟩)
       ·exact ve (hp i j fR hi hj) ((ih i j _ fR hi rk hj hof).1 u h2.c)
      refine ⟨u, ?_, h3⟩
      rw [cell_of_row w b _ cur e (0, 0) pV, ← h1]
      congr 1
      rw [aeu]
      omega
     refine .gz sz len f' b (base + off * sz) cap (fun i j => (w.cell? ⟨b, base + off * sz + i * sz + j, none⟩).getD undef) (.inr ⟨id, g, sz, n, e, f, base, hk, ho, .inl iL⟩) (fun i hi => by rw [hl i hi]; exact Yn _ ahw) VR (fun i j pv hi hj => ?_) (fun i j pv hi hj => ?_)
     ·obtain ⟨u, h1, _⟩ := hcl i j pv hi hj
      rw [h1]; rfl
     ·obtain ⟨u, h1, h2⟩ := hcl i j pv hi hj
      simp only [h1, afq]
      exact h2
  exact ⟨key, key, key⟩
 | agg cs Dm hl P9 ih =>
  have key : ∀ v, jX μ h S w (.agg cs) v → jX (mm μ h k) η (D5 μ h k S) w (.agg Dm) v := fun v hv => by
   obtain ⟨vs, h1, h2, h3⟩ := hv
   refine ⟨vs, h1, h2.trans hl.symm, fun j fR hj => ?_⟩
   have H7 : j < cs.length := by rw [← hl]; exact (An.1 hj).1
   have rk := Is H7
   obtain ⟨u, q1, q2⟩ := h3 j _ rk
   exact ⟨u, q1, (ih j _ fR rk hj).1 u q2⟩
  exact ⟨fun _ hv => (show False from hv).elim, key, key⟩
 | fu cs Dm hl P9 ih =>
  refine ⟨fun _ hv => (show False from hv).elim, fun _ hv => (show False from hv).elim, fun v hv => ?_⟩
  obtain ⟨vs, h1, h2, h3⟩ := hv
  refine ⟨vs, h1, h2.trans hl.symm, fun j fR hj => ?_⟩
  have H7 : j < cs.length := by rw [← hl]; exact (An.1 hj).1
  have rk := Is H7
  obtain ⟨u, q1, q2⟩ := h3 j _ rk
  exact ⟨u, q1, (ih j _ fR rk hj).2.1 u q2⟩
end
section
variable {P : Program} {T : pr} {μ : Mu} {h η : List ak} {k : List Nat} {S : Nat → Prop} {w : World} {m : Nat}
theorem Pd {a a' : PV} (hz : Fz h η k a a') (ha : uq a = true) : uq a' = true ∧ ∀ v, tn a v → tn a' v := by
 cases hz with
 | int k' n => exact ⟨rfl, fun _ h => h⟩
 | bool b => exact ⟨rfl, fun _ h => h⟩
 | str s => exact ⟨rfl, fun _ h => h⟩
 | iZ _ => exact ⟨rfl, fun v h => by
   cases a <;> first | (cases ha; done) | (have h : v = _ := h; subst h; rfl) | exact h⟩
 | _ => cases ha
theorem KO {a a' : PV} (hz : Fz h η k a a') (ha : kE a = true) : kE a' = true ∧ ∀ v, ri a v → ri a' v := by
 cases hz with
 | int k' n => exact ⟨rfl, fun _ h => h⟩
 | bool b => exact ⟨rfl, fun _ h => h⟩
 | str s => exact ⟨rfl, fun _ h => h⟩
 | iZ _ => exact ⟨rfl, fun _ _ => trivial⟩
 | agg cs Dm hl hc =>
  have el : ∀ j fR, Dm[j]? = some fR → ∃ pv, cs[j]? = some pv ∧ uq fR = true ∧ ∀ v, tn pv v → tn fR v := fun j fR hj => by
   have bO : j < cs.length := by rw [← hl]; exact (An.1 hj).1
   have h1 := Is bO
   have h2 := Pd (hc j _ _ h1 hj) (aeb.1 ha _ (aee bO))
   exact ⟨_, h1, h2⟩
  refine ⟨aeb.2 (fun x hx => ?_), fun v hv => ?_⟩
  ·obtain ⟨j, hj, rfl⟩ := aeM.1 hx
   obtain ⟨_, _, h2, _⟩ := el j _ (Is hj)
   exact h2
  ·obtain ⟨vs, q1, q2, q3⟩ := hv
   refine ⟨vs, q1, q2.trans hl.symm, fun j fR hj => ?_⟩
   obtain ⟨pv, e1, _, e2⟩ := el j fR hj
   obtain ⟨u, hu, hr⟩ := q3 j pv e1
   exact ⟨u, hu, e2 u hr⟩
 | _ => cases ha
theorem Ch : ∀ {l : List Nat} {x i : Nat}, l[i]? = some x → LQ l x = true
 | [], x, i, h => by simp at h
 | a :: r, x, 0, h => by
  simp at h; subst h
  unfold LQ
  rw [show Nat.beq a a = true from aeY a]
 | a :: r, x, i + 1, h => by
  unfold LQ
  cases Nat.beq a x
  ·exact Ch ahT
  ·rfl
theorem vg : ∀ {η : List ak} {k : List Nat} {i id g sz n : Nat} {e : TypeId} {f : Nat → List PV}, η[i]? = some (ak.row g sz n e f) → k[i]? = some id → ∃ j : Nat, (oq η k)[j]? = some id
 | [], _, i, _, _, _, _, _, _, h, _ => by simp at h
 | _ :: _, [], i, _, _, _, _, _, _, _, h => by simp at h
 | .row _ _ _ _ _ :: r, a :: is, 0, id, _, _, _, _, _, _, h => by simp at h; subst h; exact ⟨0, rfl⟩
 | .dead :: r, a :: is, 0, id, _, _, _, _, _, h, _ => by simp at h
 | .row _ _ _ _ _ :: r, a :: is, i + 1, id, _, _, _, _, _, h1, h2 => by
  obtain ⟨j, hj⟩ := vg (i := i) ahW ahO
  exact ⟨j + 1, by simpa [oq] using hj⟩
 | .dead :: r, a :: is, i + 1, id, _, _, _, _, _, h1, h2 => by
  obtain ⟨j, hj⟩ := vg (i := i) ahW ahO
  exact ⟨j, by simpa [oq] using hj⟩
theorem vh : ∀ {η : List ak} {k : List Nat} {i j id g sz n g' cf n' : Nat} {e e' : TypeId} {f f' : Nat → List PV}, oM (oq η k) = true → η[i]? = some (ak.row g sz n e f) → k[i]? = some id → η[j]? = some (ak.row g' cf n' e' f') → k[j]? = some id → i = j
 | [], _, i, _, _, _, _, _, _, _, _, _, _, _, _, _, h, _, _, _ => by simp at h
 | _ :: _, [], i, _, _, _, _, _, _, _, _, _, _, _, _, _, _, h, _, _ => by simp at h
 | .row _ _ _ _ _ :: r, a :: is, 0, 0, _, _, _, _, _, _, _, _, _, _, _, _, _, _, _, _ => rfl
 | .row _ _ _ _ _ :: r, a :: is, 0, j + 1, id, _, _, _, _, _, _, _, _, _, _, hn, _, h2, h3, h4 => by
  simp at h2; subst h2
  obtain ⟨q, hq⟩ := vg (η := r) (k := is) (i := j) (by simpa using h3) (by simpa using h4)
  unfold oq oM at hn
  rw [Ch hq] at hn; cases hn
 | .row _ _ _ _ _ :: r, a :: is, i + 1, 0, id, _, _, _, _, _, _, _, _, _, _, hn, h1, h2, _, h4 => by
  simp at h4; subst h4
  obtain ⟨q, hq⟩ := vg (η := r) (k := is) (i := i) ahW ahO
  unfold oq oM at hn
  rw [Ch hq] at hn; cases hn
 | .row _ _ _ _ _ :: r, a :: is, i + 1, j + 1, id, _, _, _, _, _, _, _, _, _, _, hn, h1, h2, h3, h4 => by
  unfold oq oM at hn
  cases hm : LQ (oq r is) a with
  | true => rw [hm] at hn; cases hn
  | false =>
   rw [hm] at hn
   rw [vh (η := r) (k := is) (i := i) (j := j) hn ahW ahO (by simpa using h3) (by simpa using h4)]
 | .dead :: r, a :: is, 0, _, _, _, _, _, _, _, _, _, _, _, _, _, h, _, _, _ => by simp at h
 | .dead :: r, a :: is, _ + 1, 0, _, _, _, _, _, _, _, _, _, _, _, _, _, _, h, _ => by simp at h
 | .dead :: r, a :: is, i + 1, j + 1, id, _, _, _, _, _, _, _, _, _, _, hn, h1, h2, h3, h4 => by
  rw [vh (η := r) (k := is) (i := i) (j := j) hn ahW ahO (by simpa using h3) (by simpa using h4)]
theorem xW (hc : Core μ h S w) (hh : p6 h η k m 0 η k) (hk : oM (oq η k) = true) : Core (mm μ h k) η (D5 μ h k S) w ∧ (∀ b, cQ (mm μ h k) η b → cQ μ h b) ∧ ∀ b, D5 μ h k S b → S b ∨ cQ μ h b := by
 obtain ⟨hlen, dk⟩ := nL η k 0 hh
 have back : ∀ (id' g' cf n' : Nat) (e' : TypeId) (f' : Nat → List PV), η[id']? = some (ak.row g' cf n' e' f') → (n' = 0 ∧ mm μ h k id' = none) ∨ ∃ (id g : Nat) (f : Nat → List PV), k[id']? = some id ∧ (∃ n, h[id]? = some (ak.row g cf n e' f) ∧ n' ≤ n ∧ (n' = n ∨ cf ≠ 2)) ∧ mm μ h k id' = μ id ∧
   ∀ i, i < n' → (f' i).length = (f i).length ∧ ∀ (j : Nat) (pv fR : PV), (f i)[j]? = some pv → (f' i)[j]? = some fR → Fz h η k pv fR := fun id' g' cf n' e' f' hη => by
  obtain ⟨id, r1, r2⟩ := dk id' _ hη
  unfold vT at r2
  cases ho : h[id]? with
  | none => rw [ho] at r2; exact .inl ⟨r2.2, D4 r1 ho⟩
  | some o =>
   cases o with
   | dead => rw [ho] at r2; exact r2.elim
   | row g sz n e f =>
    rw [ho] at r2
    obtain ⟨_, rfl, r4, rfl, r3⟩ := r2
    refine .inr ⟨id, g, f, r1, ⟨n, ho, ?_⟩, sT r1 ho, fun i hi => wE.get _ _ (r3 i hi)⟩
    rcases r4 with rfl | ⟨_, r5, r6⟩
    ·exact ⟨adV _, .inl rfl⟩
    ·exact ⟨r6, .inr r5⟩
 have AD : ∀ b, CP (mm μ h k) η b → ∃ id, id ∈ k ∧ ∃ g sz n e f base, h[id]? = some (ak.row g sz n e f) ∧ μ id = some (b, base) := fun b hb => by
  obtain ⟨id', g', cf, n', e', f', base, hη, hm⟩ := hb
  rcases back id' g' cf n' e' f' hη with ⟨_, q3⟩ | ⟨id, g, f, q1, ⟨n, q2, _⟩, q3, _⟩
  ·rw [q3] at hm; cases hm
  ·rw [q3] at hm
   exact ⟨id, aef q1, g, cf, n, e', f, base, q2, hm⟩
 have aaw : ∀ {pv : PV} {sz n : Nat} {e : TypeId} {f : Nat → List PV} {F : Nat → Prop}, Fz h η k pv (.bf sz n e f F) → pv = .bf sz n e f F ∨ (pv = .aq ∧ n = 0 ∧ ∀ b, ¬ F b) := fun hz => by
  cases hz with
  | bf => exact .inl rfl
  | LA => exact .inr ⟨rfl, rfl, fun _ h => h⟩
 have qn : ∀ id' i j b, eg η id' i j b → ∃ id, k[id']? = some id ∧ eg h id i j b ∧ ∃ g sz n e f, η[id']? = some (ak.row g sz n e f) := fun id' i j b ⟨g', cf, n', e', f', qI, n2, e2, f2, F2, q1, q2, q3, q4⟩ => by
  rcases back id' g' cf n' e' f' q1 with ⟨r1, _⟩ | ⟨id, g, f, r1, ⟨n, r2, hle, _⟩, r3, r4⟩
  ·omega
  ·obtain ⟨s1, s2⟩ := r4 i q2
   have H7 : j < (f i).length := by rw [← s1]; exact (An.1 q3).1
   have rk := Is H7
   rcases aaw (s2 j _ _ rk q3) with this | ⟨_, _, this⟩
   ·exact ⟨id, r1, ⟨g, cf, n, e', f, _, _, _, _, _, r2, by omega, by rw [rk, this], q4⟩, _, _, _, _, _, q1⟩
   ·exact absurd q4 (this b)
 have nh : ∀ b, cQ (mm μ h k) η b → cQ μ h b := fun b hb => by
  rcases hb with hb | ⟨x, y, z, hb⟩
  ·obtain ⟨id, _, g, sz, n, e, f, base, q2, hm⟩ := AD b hb
   exact .inl ⟨id, g, sz, n, e, f, base, q2, hm⟩
  ·obtain ⟨id, _, q, _⟩ := qn x y z b hb
   exact ahu
 have hs : ∀ b, D5 μ h k S b → S b ∨ cQ μ h b := fun b hb => by
  rcases hb with hb | ⟨id, g, sz, n, e, f, base, _, h1, h2 | ⟨i, j, h2⟩⟩
  ·exact .inl hb
  ·exact .inr (.inl ⟨id, g, sz, n, e, f, base, h1, h2⟩)
  ·exact .inr (.inr ⟨_, _, _, h2⟩)
 refine ⟨⟨fun id' g' cf n' e' f' hη => ?_, ?_⟩, nh, hs⟩
 ·rcases back id' g' cf n' e' f' hη with ⟨rfl, q3⟩ | ⟨id, g, f, q1, ⟨n, q2, hle, hor⟩, q3, q4⟩
  ·exact ⟨fun i hi => absurd hi (aey _), by rw [q3]⟩
  obtain ⟨r1, r2⟩ := hc.heap id g cf n e' f q2
  refine ⟨fun i hi => (q4 i hi).1.trans (r1 i (aet hi hle)), ?_⟩
  rw [q3]
  cases hm : μ id with
  | none => rw [hm] at r2; have r2 : n = 0 := r2; show n' = 0; omega
  | some p =>
   obtain ⟨b, base⟩ := p
   rw [hm] at r2
   obtain ⟨o, s1, s2⟩ := r2
   refine ⟨o, s1, ?_⟩
   cases o with
   | cells cur e2 z =>
    obtain ⟨x1, x2, x3, s3⟩ := s2
    refine ⟨x1, x2, aer (Nat.add_le_add_left (aek _ hle) _) x3, fun i j fR hi hj => ?_⟩
    have H7 : j < (f i).length := by rw [← (q4 i hi).1]; exact (An.1 hj).1
    have rk := Is H7
    obtain ⟨u, t1, t2⟩ := s3 i j _ (aet hi hle) rk
    have hz := (q4 i hi).2 j _ fR rk hj
    refine ⟨u, t1, ?_⟩
    cases hx : ef fR with
    | false => exact bZ.k ((uD hc hh hz).1 u t2.c) hx
    | true =>
     cases fR with
     | bf qI n2 e2 f2 F2 =>
      rcases aaw hz with hq | ⟨hq, rfl, hF⟩
      ·rw [hq] at t2
       exact ml.mono (fun _ _ => rfl) (fun b hb => .inl hb) (show ml S w (.bf qI n2 e2 f2 F2) u from t2) (fun _ _ _ _ _ _ _ _ => rfl)
      ·rw [hq] at t2
       have t2 : aV S w .aq u := t2
       cases t2
       exact ml.nil _ _ _ _ hF
     | _ => cases hx
   | map es c =>
    obtain ⟨x1, s3⟩ := s2
    have hn : n' = n := by
     rcases hor with h0 | h0
     ·exact h0
     ·rcases aeJ n with h1 | h1
      ·omega
      ·obtain ⟨kp, vp, en, y1, _⟩ := s3 0 h1
       have := r1 0 h1
       rw [y1] at this
       exact absurd this.symm h0
    subst hn
    refine ⟨x1, fun i hi => ?_⟩
    obtain ⟨kp, vp, en, y1, y2, y3, y4, y5, y6⟩ := s3 i hi
    obtain ⟨z1, z2⟩ := q4 i hi
    rw [y1] at z1 z2
    generalize AW : f' i = l' at z1 z2 ⊢
    rcases l' with _ | ⟨Xv, _ | ⟨Xw, _ | ⟨c3, l3⟩⟩⟩ <;> simp at z1
    have w1 := KO (z2 0 kp Xv rfl rfl) y2
    have w2 := KO (z2 1 vp Xw rfl rfl) y3
    exact ⟨Xv, Xw, en, rfl, w1.1, w2.1, y4, w1.2 _ y5, w2.2 _ y6⟩
   | _ => exact s2.elim
 ·refine ⟨fun b hb hsb => ?_, fun b hb => hc.ok.lt b (nh b hb), fun b hb => ?_, ?_, hc.ok.known.BI (fun _ _ => rfl) (fun _ hb => .inl hb), fun b hb x y z hx => ?_, fun b i x y j x' y' hx wA => ?_⟩
  rotate_right 2
  ·obtain ⟨id, _, g, sz, n, e, f, base, q2, hm⟩ := AD b hb
   obtain ⟨RB, _, q, _⟩ := qn x y z b hx
   exact hc.ok.hv b ⟨id, g, sz, n, e, f, base, q2, hm⟩ _ _ _ q
  ·obtain ⟨XF, k1, q1, _, _, _, _, _, r1⟩ := qn i x y b hx
   obtain ⟨RB, k2, q2, _, _, _, _, _, r2⟩ := qn j x' y' b wA
   obtain ⟨e1, e2, e3⟩ := hc.ok.hh b _ _ _ _ _ _ q1 q2
   subst e1
   exact ⟨vh hk r1 k1 r2 k2, e2, e3⟩
  ·rcases hsb with hsb | ⟨RB, g2, qI, n2, e2, f2, aax, hnk, h1, h2⟩
   ·exact hc.ok.apart b (nh b hb) hsb
   ·rcases hb with hb | ⟨x, y, z, hb⟩
    ·obtain ⟨id, Zx, g, sz, n, e, f, base, q2, hm⟩ := AD b hb
     rcases h2 with h2 | ⟨i, j, h2⟩
     ·have := hc.ok.inj id RB _ _ _ _ _ _ _ _ _ _ _ _ _ q2 h1 hm h2
      subst this
      exact hnk Zx
     ·exact hc.ok.hv b ⟨id, g, sz, n, e, f, base, q2, hm⟩ _ _ _ h2
    ·obtain ⟨id, Zx, q, _⟩ := qn x y z b hb
     rcases h2 with h2 | ⟨i, j, h2⟩
     ·exact hc.ok.hv b ⟨RB, g2, qI, n2, e2, f2, aax, h1, h2⟩ _ _ _ q
     ·obtain ⟨e1, _, _⟩ := hc.ok.hh b _ _ _ _ _ _ q h2
      subst e1
      exact hnk (aef Zx)
  ·rcases hs b hb with h1 | h1
   ·exact hc.ok.slt b h1
   ·exact hc.ok.lt b h1
  ·intro i j gi Qm ni ei fi gj pU nj ej fj b o o' hi hj qm pg
   rcases back i gi Qm ni ei fi hi with ⟨_, q3⟩ | ⟨XF, g1, f1, q1, ⟨nn1, q2, _⟩, q3, _⟩
   ·rw [q3] at qm; cases qm
   rcases back j gj pU nj ej fj hj with ⟨_, r3⟩ | ⟨RB, g2, f2, r1, ⟨nn2, r2, _⟩, r3, _⟩
   ·rw [r3] at pg; cases pg
   rw [q3] at qm
   rw [r3] at pg
   have := hc.ok.inj XF RB _ _ _ _ _ _ _ _ _ _ _ _ _ q2 r2 qm pg
   subst this
   exact vh hk hi q1 hj r1
structure Start where
 μ : Mu
 h : List ak
 S : Nat → Prop
 w : World
 nt : Nat
theorem Tb {C : Start} (hc : Core μ h S w) (hf : Fr C.μ C.h C.S C.w μ h S w) (hh : p6 h η k C.h.length 0 η k) (hk : oM (oq η k) = true) (hm : C.h.length ≤ k.length) :
  Fr C.μ C.h C.S C.w (mm μ h k) η (D5 μ h k S) w := by
 obtain ⟨hlen, dk⟩ := nL η k 0 hh
 obtain ⟨_, nh, hs⟩ := xW hc hh hk
 have idx : ∀ id, id < C.h.length → ∃ o id', η[id]? = some o ∧ k[id]? = some id' ∧ vT h η k C.h.length o id id' := fun id hid => by
  have bO : id < η.length := by omega
  obtain ⟨id', r1, r2⟩ := dk id _ (Is bO)
  rw [adX] at r2
  exact ⟨_, id', Is bO, r1, r2⟩
 refine ⟨by omega, hf.blocks, fun b hb => .inl (hf.sub b hb), fun b hb => ?_, fun b hb => hf.own b (nh b hb), hf.size, hf.os, hf.tape, hf.output, fun id g0 RC n0 e0 f0 h0 => ?_, fun id h0 => ?_, hf.bX, fun id g0 RC n0 e0 f0 b base h0 Zp oC => ?_, hf.vO⟩
 rotate_right
 ·have hid : id < C.h.length := (An.1 h0).1
  obtain ⟨o, id', q1, q2, q3⟩ := idx id hid
  obtain ⟨r1, r2⟩ := hf.maps id g0 RC n0 e0 f0 b base h0 Zp oC
  refine ⟨r1, ?_⟩
  rw [q1]
  unfold vT at q3
  cases o with
  | dead => exact .inl rfl
  | row g' cf n' e' f' =>
   cases ho : h[id']? with
   | none => rw [ho] at q3; exact absurd q3.1 ahw
   | some o2 =>
    cases o2 with
    | dead => rw [ho] at q3; exact q3.elim
    | row g sz n e f =>
     rw [ho] at q3
     obtain ⟨s1, rfl, s2, rfl, _⟩ := q3
     obtain ⟨rfl, rfl⟩ := s1 hid
     obtain rfl := s2.resolve_right (fun hx => absurd hx.1 ahw)
     rw [ho] at r2
     rcases r2 with r2 | ⟨_, r3⟩
     ·cases r2
     ·exact .inr ⟨⟨_, _, _, _, _, rfl⟩, (sT q2 ho).trans r3⟩
 ·rcases hs b hb with h1 | h1
  ·exact hf.new b h1
  ·rcases hf.own b h1 with h2 | h2
   ·exact .inr (.inl h2)
   ·exact .inr (.inr h2)
 ·have hid : id < C.h.length := (An.1 h0).1
  obtain ⟨o, id', q1, q2, q3⟩ := idx id hid
  have hg := hf.B4 id g0 RC n0 e0 f0 h0
  rw [q1]
  unfold vT at q3
  cases o with
  | dead => trivial
  | row g' cf n' e' f' =>
   cases ho : h[id']? with
   | none => rw [ho] at q3; exact absurd q3.1 ahw
   | some o2 =>
    cases o2 with
    | dead => rw [ho] at q3; exact q3.elim
    | row g sz n e f =>
     rw [ho] at q3
     obtain ⟨r1, rfl, r2, rfl, _⟩ := q3
     obtain ⟨rfl, rfl⟩ := r1 hid
     obtain rfl := r2.resolve_right (fun hx => absurd hx.1 ahw)
     rw [ho] at hg
     refine ⟨hg.1, fun he => ?_⟩
     obtain ⟨s1, s2, s3, s4⟩ := hg.2 he
     exact ⟨by rw [sT q2 ho]; exact s1, s2, s3, s4⟩
 ·have hid : id < C.h.length := (An.1 h0).1
  obtain ⟨o, id', q1, q2, q3⟩ := idx id hid
  have hd := hf.dead id h0
  rw [q1]
  unfold vT at q3
  cases o with
  | dead => rfl
  | row g' cf n' e' f' =>
   cases ho : h[id']? with
   | none => rw [ho] at q3; exact absurd q3.1 ahw
   | some o2 =>
    cases o2 with
    | dead => rw [ho] at q3; exact q3.elim
    | row g sz n e f =>
     rw [ho] at q3
     obtain ⟨rfl, rfl⟩ := q3.1 hid
     rw [ho] at hd
     cases hd
structure nv (C : Start) (μ : Mu) (h : List ak) (S : Nat → Prop) (env : Env) (a : Act) (w : World) : Prop where
 core : Core μ h S w
 fr : Fr C.μ C.h C.S C.w μ h S w
 tmps : ∀ t, bN μ h S w (env t) (a.tmps.getD t undef)
 size : a.tmps.size = C.nt
 XG : ∀ t, C.nt ≤ t → env t = .iZ
 defers : a.defers = []
variable {C : Start} {env : Env} {a : Act}
theorem Ci (env : Env) (t : Nat) (v : PV) : qo env t v t = v := by simp [qo]
theorem FM (env : Env) {t j : Nat} (v : PV) (hj : j ≠ t) : qo env t v j = env j := by
 unfold qo
 have : Nat.beq j t = false := by
  cases hb : Nat.beq j t with
  | true => exact (hj (adW hb)).elim
  | false => rfl
 rw [this]; rfl
def nD (nt : Nat) (o : Oper) : Bool := match o.dst with | some t => Nat.blt t nt | none => true
theorem nv.put (hs : nv C μ h S env a w) {μ' : Mu} {h' : List ak} {S' : Nat → Prop} {w' : World} (hf : Fr μ h S w μ' h' S' w') (hc : Core μ' h' S' w') {dst : Option Nat} {v : PV} {val : Value} (hv : bN μ' h' S' w' v val)
  (hd : ∀ t, dst = some t → t < C.nt) : nv C μ' h' S' (dQ env dst v) (a.put dst val) w' := by
 refine ⟨hc, hs.fr.trans hf, fun t => ?_, ?_, fun t ht => ?_, ?_⟩
 ·cases dst with
  | none => exact (hs.tmps t).fr hf hs.core.ok
  | some d =>
   have Pe := hd d rfl
   by_cases htd : t = d
   ·subst htd
    show bN μ' h' S' w' (qo env t v t) _
    rw [Ci]
    have : ((a.put (some t) val).tmps).getD t undef = val := by
     have bO : t < a.tmps.size := by rw [hs.size]; exact Pe
     simp [Act.put, bO]
    rw [this]; exact hv
   ·show bN μ' h' S' w' (qo env d v t) _
    rw [FM env v htd]
    have : ((a.put (some d) val).tmps).getD t undef = a.tmps.getD t undef := by
     simp [Act.put, afG (aff htd)]
    rw [this]; exact (hs.tmps t).fr hf hs.core.ok
 ·cases dst with
  | none => exact hs.size
  | some d => simp [Act.put, hs.size]
 ·cases dst with
  | none => exact hs.XG t ht
  | some d =>
   have Pe := hd d rfl
   show qo env d v t = _
   rw [FM env v ahw]
   exact hs.XG t ht
 ·cases dst with
  | none => exact hs.defers
  | some d => exact hs.defers
theorem nv.Cj (hs : nv C μ h S env a w) {t : Nat} {b : Bool} (he : env t = .bool b) : nv C μ h S (qo env t (.bool b)) a w := by
 have : qo env t (.bool b) = env := by
  funext j
  by_cases hj : j = t
  ·subst hj; rw [Ci, he]
  ·rw [FM env _ hj]
 rw [this]; exact hs
def zb (C : Start) (Q : XQ) : Exit → Act → World → Prop := fun e a w => ∃ μ h S env, nv C μ h S env a w ∧ Q e env h
theorem wG (hs : nv C μ h S env a w) {ops : Array Oper} {j t : Nat} {b : Bool} (hj : (ops.toList[j]?).bind (·.dst) = some t) (he : env t = .bool b) : yielded ops a.tmps j = some b := by
 have hv := hs.tmps t
 rw [he] at hv
 have hv := hv.mZ
 have bO : t < a.tmps.size := by
  rcases aeE t a.tmps.size with h1 | h1
  ·exact h1
  ·rw [hs.XG t (by rw [← hs.size]; exact h1)] at he; cases he
 unfold yielded
 rw [aes] at hj
 rw [hj]
 simp only [afQ]
 have : a.tmps[t]? = some (.bool b) := by
  rw [aeq bO]
  simp [bO] at hv
  rw [hv]
 rw [this]
theorem wH : bN μ h S w (.fu []) undef := ⟨#[], rfl, rfl, fun j pv hj => by simp at hj⟩
theorem sU (hs : nv C μ h S env a w) {ops : Array Oper} {j t : Nat} (hj : (ops.toList[j]?).bind (·.dst) = some t) (he : env t = .fu []) : yielded ops a.tmps j = none := by
 have hv := hs.tmps t
 rw [he] at hv
 obtain ⟨vs, hv, _⟩ := hv
 unfold yielded
 rw [aes] at hj
 rw [hj]
 simp only [afQ]
 rcases aeE t a.tmps.size with h1 | h1
 ·have : a.tmps[t]? = some (.tuple vs) := by
   rw [aeq h1]
   simp [h1] at hv
   rw [hv]
  rw [this]
 ·rw [Array.getElem?_eq_none h1]
theorem wI {K : Env → List ak → Prop} (all : List Oper) (o : Oper) (rest : List Oper) (env : Env) (h : List ak) {j : Nat} {want : Bool} (hg : o.guard = some (j, want)) :
  rl P T all K (o :: rest) env h = (match (all[j]?).bind (·.dst) with
     | some t => match env t with
      | .bool b => fv b
        (match (generalizing := false) want with
         | true => pop P T o.op (qo env t (.bool true)) h (fun v h' => rl P T all K rest (dQ (qo env t (.bool true)) o.dst v) h')
         | false => rl P T all K rest (dQ (qo env t (.bool true)) o.dst (.fu [])) h)
        (match (generalizing := false) want with
         | true => rl P T all K rest (dQ (qo env t (.bool false)) o.dst (.fu [])) h
         | false => pop P T o.op (qo env t (.bool false)) h (fun v h' => rl P T all K rest (dQ (qo env t (.bool false)) o.dst v) h'))
      | .fu [] => rl P T all K rest (dQ env o.dst (.fu [])) h
      | _ => False
     | none => False) := by
 obtain ⟨dst, op, ty, pos, after, guard⟩ := o
 have hg : guard = some (j, want) := hg
 rw [hg]
 rfl
theorem wJ (hT : dJ P T) (ops : Array Oper) {K : Env → List ak → Prop} {Q : Exit → Act → World → Prop} (hK : ∀ env h a w μ S, K env h → nv C μ h S env a w → Q .normal a w) :
  ∀ (l : List Oper) (env : Env) (h : List ak) (a : Act) (w : World) (μ : Mu) (S : Nat → Prop), rl P T ops.toList K l env h → (∀ o ∈ l, nD C.nt o = true) → nv C μ h S env a w → wpList P ops Q l a w
 | [], env, h, a, w, μ, S, hp, _, hs => hK env h a w μ S hp hs
 | o :: rest, env, h, a, w, μ, S, hp, hd, hs => by
  have RD : ∀ t, o.dst = some t → t < C.nt := fun t ht => by
   have := hd o ahy
   unfold nD at this
   rw [ht] at this
   simpa using this
  have XH : ∀ o ∈ rest, nD C.nt o = true := fun o ho => hd o (by simp [ho])
  have run : ∀ env', nv C μ h S env' a w → pop P T o.op env' h (fun v h' => rl P T ops.toList K rest (dQ env' o.dst v) h') → o.wp P a w (wpList P ops Q rest) Q := fun env' kI vK => by
   obtain ⟨dst, op, ty, pos, after, guard⟩ := o
   refine D3 (env := env') hT kI.core kI.tmps vK _ _ fun v val h' μ' S' w' RE hv hc hf => ?_
   exact wJ hT ops hK rest _ h' _ w' μ' S' RE XH (kI.put hf hc hv RD)
  have skip : ∀ env', nv C μ h S env' a w → rl P T ops.toList K rest (dQ env' o.dst (.fu [])) h → wpList P ops Q rest (a.put o.dst undef) w := fun env' kI vK =>
   wJ hT ops hK rest _ h _ w μ S vK XH (kI.put Fr.refl kI.core wH RD)
  unfold wpList
  cases hg : o.guard with
  | none =>
   have hp : pop P T o.op env h (fun v h' => rl P T ops.toList K rest (dQ env o.dst v) h') := by
    exact agm
   rw [if_pos (by simp [Region.wanted, hg])]
   exact .inl (run env hs hp)
  | some p =>
   obtain ⟨j, want⟩ := p
   rw [wI ops.toList o rest env h hg] at hp
   split at hp
   ·rename_i t hj
    split at hp
    ·rename_i b he
     have hy := wG hs hj he
     obtain ⟨ht, hf⟩ := lh hp
     have kI := hs.Cj he
     cases b with
     | true =>
      have hp := ht rfl
      cases want with
      | true => rw [if_pos ahG]; exact .inl (run _ kI hp)
      | false => rw [if_neg ahG]; exact skip _ kI hp
     | false =>
      have hp := hf rfl
      cases want with
      | true => rw [if_neg ahG]; exact skip _ kI hp
      | false => rw [if_pos ahG]; exact .inl (run _ kI hp)
    ·rename_i he
     rw [if_neg aii]
     exact skip _ hs hp
    ·exact agR
   ·exact agR
end
section
variable {P : Program} {T : pr} {μ : Mu} {h h1 : List ak} {S : Nat → Prop} {w : World}
theorem KP (hc : Core μ h S w) (hx : Ht h h1) : ∃ μ', Fr μ h S w μ' h1 S w ∧ Core μ' h1 S w := by
 obtain ⟨id, g, sz, n, e, f, i, j, cf, n', e', f', F, f1, hh, hi, hj, za, KN, rfl⟩ := hx
 have hid : id < h.length := (An.1 hh).1
 obtain ⟨hl, bw⟩ := hc.heap id g sz n e f hh
 have I8 : j < sz := by rw [← hl i hi]; exact (An.1 hj).1
 have yP : ∃ b0 zX HH v, μ id = some (b0, zX) ∧ w.heap[b0]? = some (.cells HH e (0, 0)) ∧ zX + n * sz ≤ HH.size ∧ HH[zX + i * sz + j]? = some v ∧ ml S w (.bf cf n' e' f' F) v ∧
   ∀ (i j : Nat) (pv : PV), i < n → (f i)[j]? = some pv → ∃ v : Value, HH[zX + i * sz + j]? = some v ∧ pf μ h S w pv v := by
  cases iL : μ id with
  | none => rw [iL] at bw; have bw : n = 0 := bw; omega
  | some p =>
   obtain ⟨b0, zX⟩ := p
   rw [iL] at bw
   obtain ⟨o, q1, q2⟩ := bw
   cases o with
   | cells HH e0 z =>
    obtain ⟨rfl, rfl, q3, q4⟩ := q2
    obtain ⟨v, r1, r2⟩ := q4 i j _ hi hj
    exact ⟨b0, zX, HH, v, rfl, q1, q3, r1, r2, q4⟩
   | map es c =>
    obtain ⟨kp, vp, en, y1, y2, y3, _⟩ := q2.2 i hi
    rw [y1] at hj
    match j, hj with
    | 0, hj => simp at hj; rw [hj] at y2; cases y2
    | 1, hj => simp at hj; rw [hj] at y3; cases y3
    | y + 2, hj => simp at hj
   | _ => exact q2.elim
 obtain ⟨b0, zX, HH, v, iL, hb0, wz, Dk, htv, lk⟩ := yP
 have Pf : ∀ b, F b → eg h id i j b := fun b hb => ⟨_, _, _, _, _, _, _, _, _, _, hh, hi, hj, hb⟩
 obtain ⟨p, hp⟩ : ∃ p : Option (Nat × Nat), match p with
   | none => v = .slice none 0 0 ∧ n' = 0
   | some (b, off) => F b ∧ ∃ (c : Nat) (a : Addr) (cur : Array Value), w.heap[b]? = some (.cells cur e' (0, 0)) ∧ v = .slice (some a) n' c ∧ n' ≤ c ∧ (0 < c → a = ⟨b, off, none⟩) ∧ off + c * cf ≤ cur.size ∧ (∀ i, i < n' → (f' i).length = cf) ∧
     (∀ (i j : Nat) (pv : PV), i < n' → (f' i)[j]? = some pv → ∃ u, cur[off + i * cf + j]? = some u ∧ (aV S w pv u ∨ ∃ s2 n2 e2 f2 F2, pv = .bf s2 n2 e2 f2 F2 ∧ ml S w (.bf s2 n2 e2 f2 F2) u)) ∧
     (∀ (i j qI n2 : Nat) (e2 : TypeId) (f2 : Nat → List PV) (F2 : Nat → Prop), i < n' → (f' i)[j]? = some (.bf qI n2 e2 f2 F2) → ∀ b', F2 b' → F b' ∧ b' ≠ b) ∧
     (∀ (i j qI n2 : Nat) (e2 : TypeId) (f2 : Nat → List PV) (F2 : Nat → Prop) (i' j' sz3 n3 : Nat) (e3 : TypeId) (f3 : Nat → List PV) (F3 : Nat → Prop), i < n' → (f' i)[j]? = some (.bf qI n2 e2 f2 F2) → i' < n' → (f' i')[j']? = some (.bf sz3 n3 e3 f3 F3) → ∀ b', F2 b' → F3 b' → i = i' ∧ j = j') := by
  cases htv with
  | nil _ _ _ _ hF => exact ⟨none, rfl, rfl⟩
  | HF _ _ _ _ _ b off c a cur vf hF hb hlen P9 ha iY hcel nH xD Dq HG =>
   refine ⟨some (b, off), hF, c, a, cur, hb, rfl, P9, ha, iY, hlen, fun i j pv hi hj => ⟨_, hcel i j pv hi hj, ?_⟩, Dq, HG⟩
   rcases nH i j pv hi hj with q | ⟨s2, n2, e2, f2, F2, rfl⟩
   ·exact .inl q
   ·exact .inr ⟨s2, n2, e2, f2, F2, rfl, xD i j _ _ _ _ _ hi hj⟩
 have hpF : ∀ b off, p = some (b, off) → F b := fun b off hq => by subst hq; exact hp.1
 generalize RF : h.set id (ak.row g sz n e f1) ++ [ak.row 0 cf n' e' f'] = h1
 have adQ : h1.length = h.length + 1 := by rw [← RF]; simp
 have wK : h1[id]? = some (ak.row g sz n e f1) := by rw [← RF, aew (by simpa using hid)]; simp [hid]
 have AV : h1[h.length]? = some (ak.row 0 cf n' e' f') := by rw [← RF, aen ahy]; simp
 have di : ∀ k, k ≠ id → k < h.length → h1[k]? = h[k]? := fun k hk Nu => by rw [← RF, aew (by simpa using Nu), aeF (aff hk)]
 have inv : ∀ k o, h1[k]? = some o → (k = id ∧ o = ak.row g sz n e f1) ∨ (k = h.length ∧ o = ak.row 0 cf n' e' f') ∨ (k ≠ id ∧ k < h.length ∧ h[k]? = some o) := fun k o hk => by
  by_cases h2 : k = id
  ·subst h2; rw [wK] at hk; injection hk with hk; exact .inl ⟨rfl, hk.symm⟩
  ·by_cases h3 : k = h.length
   ·subst h3; rw [AV] at hk; injection hk with hk; exact .inr (.inl ⟨rfl, hk.symm⟩)
   ·have h4 : k < h.length := by have := (An.1 hk).1; omega
    rw [di k h2 h4] at hk
    exact .inr (.inr ⟨h2, h4, hk⟩)
 let μ1 : Mu := qC μ h.length p
 have Ck : μ1 h.length = p := cr _ _ _
 have oK : ∀ k, k < h.length → μ1 k = μ k := fun k hk => fx μ _ ahw
 have Cl : ∀ x y pv, x < n → (f1 x)[y]? = some pv → ((x, y) = (i, j) ∧ pv = .own h.length 0 0 n') ∨ ((x, y) ≠ (i, j) ∧ (f x)[y]? = some pv) := fun x y pv hx hy => by
  by_cases hxi : x = i
  ·subst hxi
   rw [za, afo] at hy
   by_cases hyj : j = y
   ·subst hyj
    rw [if_pos rfl, if_pos (by rw [hl x hx]; exact I8)] at hy
    injection hy with hy
    exact .inl ⟨rfl, hy.symm⟩
   ·rw [if_neg hyj] at hy
    exact .inr ⟨fun q => hyj (by injection q with _ q; exact q.symm), hy⟩
  ·rw [KN x hx hxi] at hy
   exact .inr ⟨fun q => hxi (by injection q), hy⟩
 have gL : ∀ k x y b, eg h1 k x y b → (k ≠ h.length ∧ ¬ (k = id ∧ x = i ∧ y = j) ∧ eg h k x y b) ∨ (k = h.length ∧ eg h id i j b ∧ ∃ qI n2 e2 f2 F2, x < n' ∧ (f' x)[y]? = some (.bf qI n2 e2 f2 F2) ∧ F2 b) := fun k x y b ⟨g2, s2, n2, e2, f2, s3, n3, e3, f3, F3, q1, q2, q3, q4⟩ => by
  rcases inv k _ q1 with ⟨rfl, ho⟩ | ⟨rfl, ho⟩ | ⟨h2, h3, h4⟩
  ·injection ho with a1 a2 a3 a4 a5
   subst a1 a2 a3 a4 a5
   rcases Cl x y _ q2 q3 with ⟨_, hq⟩ | ⟨rZ, hq⟩
   ·cases hq
   ·exact .inl ⟨by omega, fun ⟨_, b1, b2⟩ => rZ (by rw [b1, b2]), _, _, _, _, _, _, _, _, _, _, hh, q2, hq, q4⟩
  ·injection ho with a1 a2 a3 a4 a5
   subst a1 a2 a3 a4 a5
   refine .inr ⟨rfl, Pf b ?_, _, _, _, _, _, q2, q3, q4⟩
   cases p with
   | none => have := hp.2; omega
   | some pp =>
    obtain ⟨pb, Ww⟩ := pp
    obtain ⟨_, _, _, _, _, _, _, _, _, _, _, hs, _⟩ := hp
    exact (hs x y _ _ _ _ _ q2 q3 b q4).1
  ·exact .inl ⟨by omega, fun ⟨b1, _⟩ => h2 b1, _, _, _, _, _, _, _, _, _, _, h4, q2, q3, q4⟩
 have Cm : ∀ b, CP μ1 h1 b → CP μ h b ∨ (∃ off, p = some (b, off)) := fun b ⟨k, g2, s2, n2, e2, f2, base, q1, q2⟩ => by
  rcases inv k _ q1 with ⟨rfl, ho⟩ | ⟨rfl, ho⟩ | ⟨h2, h3, h4⟩
  ·rw [oK k hid] at q2
   exact .inl ⟨k, _, _, _, _, _, _, hh, q2⟩
  ·rw [Ck] at q2
   exact .inr ⟨base, q2⟩
  ·rw [oK k h3] at q2
   exact .inl ⟨k, _, _, _, _, _, _, h4, q2⟩
 have nh : ∀ b, cQ μ1 h1 b → cQ μ h b := fun b hb => by
  rcases hb with hb | ⟨k, x, y, hb⟩
  ·rcases Cm b hb with q | ⟨off, q⟩
   ·exact .inl q
   ·exact .inr ⟨_, _, _, Pf b (hpF b off q)⟩
  ·rcases gL k x y b hb with ⟨_, _, q⟩ | ⟨_, q, _⟩
   ·exact ahu
   ·exact ahu
 have lW : Fr μ h S w μ1 h1 S w := by
  refine ⟨by omega, fun _ _ _ => rfl, fun _ hb => hb, fun _ hb => .inl hb, fun b hb => .inl (nh b hb), adV _, rfl, rfl, rfl, fun k g2 s2 n2 e2 f2 hk => ?_, fun k hk => ?_, fun _ _ _ hc => hc, fun k g2 s2 n2 e2 f2 b base hk hm oC => ⟨oC, .inr ⟨?_, ?_⟩⟩, fun _ _ _ _ _ oC => oC⟩
  ·have Nu := (An.1 hk).1
   by_cases yQ : k = id
   ·subst yQ
    rw [hh] at hk
    injection hk with hk
    injection hk with a1 a2 a3 a4 a5
    subst a1 a2 a3 a4 a5
    rw [wK]
    exact ⟨adV _, fun _ => ⟨oK _ hid, rfl, rfl, rfl⟩⟩
   ·rw [di k yQ Nu, hk]
    exact ⟨adV _, fun _ => ⟨oK k Nu, rfl, rfl, rfl⟩⟩
  ·have Nu := (An.1 hk).1
   rw [di k (by rintro rfl; rw [hh] at hk; cases hk) Nu]; exact hk
  ·have Nu := (An.1 hk).1
   by_cases yQ : k = id
   ·subst yQ; exact ⟨_, _, _, _, _, wK⟩
   ·exact ⟨_, _, _, _, _, (di k yQ Nu).trans hk⟩
  ·rw [oK k (An.1 hk).1]; exact hm
 refine ⟨μ1, lW, ⟨fun k g2 s2 n2 e2 f2 hk => ?_, ⟨fun b hb => hc.ok.apart b (nh b hb), fun b hb => hc.ok.lt b (nh b hb), hc.ok.slt, ?_, hc.ok.known, fun b hb k x y hx => ?_, fun b k x y k' x' y' hx wA => ?_⟩⟩⟩
 ·rcases inv k _ hk with ⟨rfl, ho⟩ | ⟨rfl, ho⟩ | ⟨h2, h3, h4⟩
  ·injection ho with a1 a2 a3 a4 a5
   subst a1 a2 a3 a4 a5
   refine ⟨fun x hx => ?_, ?_⟩
   ·by_cases hxi : x = i
    ·subst hxi; rw [za, aeZ]; exact hl x hx
    ·rw [KN x hx hxi]; exact hl x hx
   ·rw [oK k hid, iL]
    refine ⟨_, hb0, rfl, rfl, wz, fun x y pv hx hy => ?_⟩
    rcases Cl x y pv hx hy with ⟨hq, rfl⟩ | ⟨_, hq⟩
    ·injection hq with r1 r2
     subst r1 r2
     refine ⟨v, Dk, ?_⟩
     show bL μ1 h1 w h.length 0 0 n' v
     unfold bL
     rw [AV]
     cases p with
     | none =>
      obtain ⟨rfl, rfl⟩ := hp
      exact ⟨⟨_, _, _, rfl⟩, adV _, fun _ => ⟨adV _, by rw [Ck]⟩⟩
     | some pp =>
      obtain ⟨pb, Ww⟩ := pp
      obtain ⟨_, c, a, cur, t1, rfl, t3, t4, t5, _⟩ := hp
      refine ⟨⟨_, _, _, rfl⟩, adV _, fun _ => ⟨by omega, ?_⟩⟩
      rw [Ck]
      exact ⟨a, c, rfl, t3, fun h0 => by rw [t4 h0]; simp, cur, e', t1, by rw [adX]; exact t5⟩
    ·obtain ⟨u, r1, r2⟩ := lk x y pv hx hq
     exact ⟨u, r1, r2.fr lW hc.ok (fun _ _ _ _ _ _ _ _ => rfl)⟩
  ·injection ho with a1 a2 a3 a4 a5
   subst a1 a2 a3 a4 a5
   rw [Ck]
   cases p with
   | none => exact ⟨fun x hx => by have := hp.2; omega, hp.2⟩
   | some pp =>
    obtain ⟨pb, Ww⟩ := pp
    obtain ⟨_, c, a, cur, t1, _, t3, _, t5, t6, t7, _, _⟩ := hp
    refine ⟨t6, _, t1, rfl, rfl, aer (Nat.add_le_add_left (aek _ t3) _) t5, fun x y pv hx hy => ?_⟩
    obtain ⟨u, r1, r2⟩ := t7 x y pv hx hy
    refine ⟨u, r1, ?_⟩
    rcases r2 with r2 | ⟨_, _, _, _, _, rfl, r2⟩
    ·exact (bZ.kG r2).k (aV.no r2)
    ·exact r2
  ·obtain ⟨q1, q2⟩ := hc.heap k _ _ _ _ _ h4
   refine ⟨q1, ?_⟩
   rw [oK k h3]
   cases hm : μ k with
   | none => rw [hm] at q2; exact q2
   | some pp =>
    obtain ⟨b, base⟩ := pp
    rw [hm] at q2
    obtain ⟨o, r1, r2⟩ := q2
    exact ⟨o, r1, r2.mono (fun _ _ _ _ _ _ hr => hr.fr lW hc.ok (fun _ _ _ _ _ _ _ _ => rfl))⟩
 ·intro a b ga sa na ea fa gb sb nb eb fb HF o o' ha hb hma oC
  have CQ : ∀ k gk sk nk ek fk oo, h1[k]? = some (ak.row gk sk nk ek fk) → μ1 k = some (HF, oo) → (k = h.length ∧ F HF) ∨ (k < h.length ∧ ∃ gk sk nk ek fk, h[k]? = some (ak.row gk sk nk ek fk) ∧ μ k = some (HF, oo)) := fun k gk sk nk ek fk oo hk hm => by
   rcases inv k _ hk with ⟨rfl, ho⟩ | ⟨rfl, ho⟩ | ⟨h2, h3, h4⟩
   ·rw [oK k hid] at hm; exact .inr ⟨hid, _, _, _, _, _, hh, hm⟩
   ·rw [Ck] at hm; exact .inl ⟨rfl, hpF _ _ hm⟩
   ·rw [oK k h3] at hm; exact .inr ⟨h3, _, _, _, _, _, h4, hm⟩
  rcases CQ a _ _ _ _ _ _ ha hma with ⟨rfl, q⟩ | ⟨q0, _, _, _, _, _, q1, q2⟩
  ·rcases CQ b _ _ _ _ _ _ hb oC with ⟨rfl, _⟩ | ⟨r0, _, _, _, _, _, r1, r2⟩
   ·rfl
   ·exact absurd (Pf HF q) (hc.ok.hv HF ⟨b, _, _, _, _, _, _, r1, r2⟩ _ _ _)
  ·rcases CQ b _ _ _ _ _ _ hb oC with ⟨rfl, r⟩ | ⟨r0, _, _, _, _, _, r1, r2⟩
   ·exact absurd (Pf HF r) (hc.ok.hv HF ⟨a, _, _, _, _, _, _, q1, q2⟩ _ _ _)
   ·exact hc.ok.inj a b _ _ _ _ _ _ _ _ _ _ _ _ _ q1 r1 q2 r2
 ·rcases Cm b hb with q | ⟨off, q⟩
  ·rcases gL k x y b hx with ⟨_, _, r⟩ | ⟨_, r, _⟩
   ·exact hc.ok.hv b q _ _ _ r
   ·exact hc.ok.hv b q _ _ _ r
  ·rcases gL k x y b hx with ⟨_, rZ, r⟩ | ⟨_, r, qI, n2, e2, f2, F2, r1, r2, r3⟩
   ·exact rZ (hc.ok.hh b _ _ _ _ _ _ r (Pf b (hpF b off q)))
   ·subst q
    obtain ⟨_, _, _, _, _, _, _, _, _, _, _, hs, _⟩ := hp
    exact (hs x y _ _ _ _ _ r1 r2 b r3).2 rfl
 ·rcases gL k x y b hx with ⟨k1, rZ, r⟩ | ⟨rfl, r, qI, n2, e2, f2, F2, r1, r2, r3⟩
  ·rcases gL k' x' y' b wA with ⟨k2, hne', r'⟩ | ⟨rfl, r', _⟩
   ·exact hc.ok.hh b _ _ _ _ _ _ r r'
   ·exact absurd (hc.ok.hh b _ _ _ _ _ _ r r') rZ
  ·rcases gL k' x' y' b wA with ⟨k2, hne', r'⟩ | ⟨rfl, r', sz3, n3, e3, f3, F3, t1, t2, t3⟩
   ·exact absurd (hc.ok.hh b _ _ _ _ _ _ r' r) hne'
   ·cases p with
    | none => have := hp.2; omega
    | some pp =>
     obtain ⟨pb, Ww⟩ := pp
     obtain ⟨_, _, _, _, _, _, _, _, _, _, _, _, hd⟩ := hp
     obtain ⟨e1, e2⟩ := hd x y _ _ _ _ _ x' y' _ _ _ _ _ r1 r2 t1 t2 b r3 t3
     exact ⟨rfl, e1, e2⟩
def FAb (μ : Mu) (h : List ak) (sub : Nat) (b : Nat) : Prop := (∃ g sz n e f base, h[sub]? = some (ak.row g sz n e f) ∧ μ sub = some (b, base)) ∨ ∃ x y, eg h sub x y b
theorem KQ (hc : Core μ h S w) {id i j sub : Nat} (hx : Hu h id i j sub (FAb μ h sub) h1) : Fr μ h S w μ h1 S w ∧ Core μ h1 S w := by
 obtain ⟨g, sz, n, e, f, g2, qI, n2, e2, f2, f1, hh, hs, rZ, hi, hj, hpu, za, KN, rfl⟩ := hx
 have hid : id < h.length := (An.1 hh).1
 have DA : sub < h.length := (An.1 hs).1
 obtain ⟨hl, bw⟩ := hc.heap id g sz n e f hh
 have I8 : j < sz := by rw [← hl i hi]; exact (An.1 hj).1
 generalize hFF : FAb μ h sub = F
 rw [hFF] at za
 have aay : ∀ b, F b → cQ μ h b := fun b hb => by
  rw [← hFF] at hb
  rcases hb with ⟨g, sz, n, e, f, base, q1, q2⟩ | ⟨x, y, q⟩
  ·exact .inl ⟨sub, _, _, _, _, _, _, q1, q2⟩
  ·exact ahu
 generalize RF : (h.set id (ak.row g sz n e f1)).set sub ak.dead = h1
 have wK : h1[id]? = some (ak.row g sz n e f1) := by rw [← RF, aeF (aff rZ)]; simp [hid]
 have AY : h1[sub]? = some ak.dead := by rw [← RF, afe (by simpa using DA)]
 have di : ∀ k, k ≠ id → k ≠ sub → h1[k]? = h[k]? := fun k h2 h3 => by rw [← RF, aeF (aff h3), aeF (aff h2)]
 have inv : ∀ k gk sk nk ek fk, h1[k]? = some (ak.row gk sk nk ek fk) → k ≠ sub ∧ ((k = id ∧ ak.row gk sk nk ek fk = ak.row g sz n e f1) ∨ (k ≠ id ∧ h[k]? = some (ak.row gk sk nk ek fk))) := fun k gk sk nk ek fk hk => by
  have h3 : k ≠ sub := by rintro rfl; rw [AY] at hk; cases hk
  refine ⟨h3, ?_⟩
  by_cases h2 : k = id
  ·subst h2; rw [wK] at hk; injection hk with hk; exact .inl ⟨rfl, hk.symm⟩
  ·rw [di k h2 h3] at hk; exact .inr ⟨h2, hk⟩
 have Cl : ∀ x y pv, x < n → (f1 x)[y]? = some pv → ((x = i ∧ y = j) ∧ pv = .bf qI n2 e2 f2 F) ∨ (¬ (x = i ∧ y = j) ∧ (f x)[y]? = some pv) := fun x y pv hx hy => by
  by_cases hxi : x = i
  ·subst hxi
   rw [za, afo] at hy
   by_cases hyj : j = y
   ·subst hyj
    rw [if_pos rfl, if_pos (by rw [hl x hx]; exact I8)] at hy
    injection hy with hy
    exact .inl ⟨⟨rfl, rfl⟩, hy.symm⟩
   ·rw [if_neg hyj] at hy
    exact .inr ⟨fun q => hyj q.2.symm, hy⟩
  ·rw [KN x hx hxi] at hy
   exact .inr ⟨fun q => hxi q.1, hy⟩
 have gL : ∀ k x y b, eg h1 k x y b → (k = id ∧ x = i ∧ y = j ∧ F b) ∨ (k ≠ sub ∧ ¬ (k = id ∧ x = i ∧ y = j) ∧ eg h k x y b) := fun k x y b ⟨g3, s3, n3, e3, f3, s4, n4, e4, f4, F4, q1, q2, q3, q4⟩ => by
  obtain ⟨h3, hq⟩ := inv k _ _ _ _ _ q1
  rcases hq with ⟨rfl, ho⟩ | ⟨h2, h4⟩
  ·injection ho with a1 a2 a3 a4 a5
   subst a1 a2 a3 a4 a5
   rcases Cl x y _ q2 q3 with ⟨⟨r1, r2⟩, hq⟩ | ⟨hne', hq⟩
   ·injection hq with _ _ _ _ hq
    subst hq
    exact .inl ⟨rfl, r1, r2, q4⟩
   ·exact .inr ⟨h3, fun ⟨_, b1⟩ => hne' b1, _, _, _, _, _, _, _, _, _, _, hh, q2, hq, q4⟩
  ·exact .inr ⟨h3, fun ⟨b1, _⟩ => h2 b1, _, _, _, _, _, _, _, _, _, _, h4, q2, q3, q4⟩
 have Cm : ∀ b, CP μ h1 b → ∃ k gk sk nk ek fk base, k ≠ sub ∧ h[k]? = some (ak.row gk sk nk ek fk) ∧ μ k = some (b, base) := fun b ⟨k, g3, s3, n3, e3, f3, base, q1, q2⟩ => by
  obtain ⟨h3, hq⟩ := inv k _ _ _ _ _ q1
  rcases hq with ⟨rfl, ho⟩ | ⟨h2, h4⟩
  ·exact ⟨k, _, _, _, _, _, _, h3, hh, q2⟩
  ·exact ⟨k, _, _, _, _, _, _, h3, h4, q2⟩
 have nh : ∀ b, cQ μ h1 b → cQ μ h b := fun b hb => by
  rcases hb with hb | ⟨k, x, y, hb⟩
  ·obtain ⟨k, _, _, _, _, _, _, _, q1, q2⟩ := Cm b hb
   exact .inl ⟨k, _, _, _, _, _, _, q1, q2⟩
  ·rcases gL k x y b hb with ⟨_, _, _, q⟩ | ⟨_, _, q⟩
   ·exact aay b q
   ·exact ahu
 have lW : Fr μ h S w μ h1 S w := by
  refine ⟨by rw [← RF]; simp, fun _ _ _ => rfl, fun _ hb => hb, fun _ hb => .inl hb, fun b hb => .inl (nh b hb), adV _, rfl, rfl, rfl, fun k g3 s3 n3 e3 f3 hk => ?_, fun k hk => ?_, fun _ _ _ hc => hc, fun k g3 s3 n3 e3 f3 b base hk hm oC => ⟨oC, ?_⟩, fun _ _ _ _ _ oC => oC⟩
  ·by_cases yQ : k = id
   ·subst yQ
    rw [hh] at hk
    injection hk with hk
    injection hk with a1 a2 a3 a4 a5
    subst a1 a2 a3 a4 a5
    rw [wK]
    exact ahm
   ·by_cases Mw : k = sub
    ·subst Mw; rw [AY]; trivial
    ·rw [di k yQ Mw, hk]
     exact ahm
  ·by_cases Mw : k = sub
   ·subst Mw; exact AY
   ·rw [di k (by rintro rfl; rw [hh] at hk; cases hk) Mw]; exact hk
  ·by_cases Mw : k = sub
   ·subst Mw; exact .inl AY
   ·refine .inr ⟨?_, hm⟩
    by_cases yQ : k = id
    ·subst yQ; exact ⟨_, _, _, _, _, wK⟩
    ·exact ⟨_, _, _, _, _, (di k yQ Mw).trans hk⟩
 have Tc : ∀ k x y b, k ≠ sub → eg h k x y b → ¬ F b := fun k x y b hk hx hF => by
  rw [← hFF] at hF
  rcases hF with ⟨_, _, _, _, _, _, q1, q2⟩ | ⟨_, _, q⟩
  ·exact hc.ok.hv b ⟨sub, _, _, _, _, _, _, q1, q2⟩ _ _ _ hx
  ·exact hk (hc.ok.hh b _ _ _ _ _ _ hx q).1
 refine ⟨lW, ⟨fun k g3 s3 n3 e3 f3 hk => ?_, ⟨fun b hb => hc.ok.apart b (nh b hb), fun b hb => hc.ok.lt b (nh b hb), hc.ok.slt, ?_, hc.ok.known, fun b hb k x y hx => ?_, fun b k x y k' x' y' hx wA => ?_⟩⟩⟩
 ·obtain ⟨h3, hq⟩ := inv k _ _ _ _ _ hk
  rcases hq with ⟨rfl, ho⟩ | ⟨h2, h4⟩
  ·injection ho with a1 a2 a3 a4 a5
   subst a1 a2 a3 a4 a5
   refine ⟨fun x hx => ?_, ?_⟩
   ·by_cases hxi : x = i
    ·subst hxi; rw [za, aeZ]; exact hl x hx
    ·rw [KN x hx hxi]; exact hl x hx
   ·cases iL : μ k with
    | none => rw [iL] at bw; exact bw
    | some p =>
     obtain ⟨b0, zX⟩ := p
     rw [iL] at bw
     obtain ⟨o, q1, q2⟩ := bw
     refine ⟨o, q1, ?_⟩
     cases o with
     | cells HH e0 z =>
      obtain ⟨rfl, rfl, q3, q4⟩ := q2
      refine ⟨rfl, rfl, q3, fun x y pv hx hy => ?_⟩
      rcases Cl x y pv hx hy with ⟨⟨rfl, rfl⟩, rfl⟩ | ⟨_, hq⟩
      ·obtain ⟨v, r1, r2⟩ := q4 x y _ hx hj
       refine ⟨v, r1, ?_⟩
       show ml S w (.bf qI n2 e2 f2 F) v
       have r2 : bL μ h w sub g2 0 n2 v := r2
       unfold bL at r2
       rw [hs] at r2
       obtain ⟨_, _, r3⟩ := r2
       obtain ⟨_, r4⟩ := r3 rfl
       obtain ⟨s1, s2⟩ := hc.heap sub _ _ _ _ _ hs
       cases hms : μ sub with
       | none =>
        rw [hms] at r4 s2
        have s2 : n2 = 0 := s2
        have r4 : v = .slice none 0 0 := r4
        subst s2 r4
        refine .nil _ _ _ _ (fun b hb => ?_)
        rw [← hFF] at hb
        rcases hb with ⟨_, _, _, _, _, _, _, t2⟩ | ⟨x', y', t1, t2, t3, t4, t5, t6, t7, t8, t9, t10, u1, u2, u3, u4⟩
        ·rw [hms] at t2; cases t2
        ·rw [hs] at u1
         injection u1 with u1
         injection u1 with _ _ u1 _ _
         omega
       | some p =>
        obtain ⟨b, base⟩ := p
        rw [hms] at r4 s2
        obtain ⟨a, cap, rfl, t2, t3, t4⟩ := r4
        obtain ⟨cur, u1, u2, u3⟩ := cH.cells t4 s2
        have iY : base + cap * qI ≤ cur.size := by
         obtain ⟨Jg, e', p1, p2⟩ := t4
         rw [u1] at p1
         injection p1 with p1
         injection p1 with p1 _ _
         subst p1
         rw [adX] at p2
         exact p2
        have vis : CP μ h b := ⟨sub, _, _, _, _, _, _, hs, hms⟩
        have Wx : ∀ (x y s5 n5 : Nat) (e5 : TypeId) (f5 : Nat → List PV) (F5 : Nat → Prop), x < n2 → (f2 x)[y]? = some (.bf s5 n5 e5 f5 F5) → ∀ b', F5 b' → eg h sub x y b' := fun x y s5 n5 e5 f5 F5 hx hy b' oI => ⟨_, _, _, _, _, _, _, _, _, _, hs, hx, hy, oI⟩
        refine .HF qI n2 e2 f2 F b base cap a cur (fun x y => (cur[base + x * qI + y]?).getD undef) (by rw [← hFF]; exact .inl ⟨_, _, _, _, _, _, hs, hms⟩) u1 s1 t2 (fun h0 => by rw [t3 h0]; simp) iY (fun x y pv hx hy => ?_) (fun x y pv hx hy => ?_) (fun x y s5 n5 e5 f5 F5 hx hy => ?_) (fun x y s5 n5 e5 f5 F5 hx hy b' oI => ?_) (fun x y s5 n5 e5 f5 F5 x' y' s6 n6 e6 f6 F6 hx hy wA hy' b' oI mJ => ?_)
        ·obtain ⟨u, w1, _⟩ := u3 x y pv hx hy
         rw [w1]; rfl
        ·obtain ⟨u, w1, w2⟩ := u3 x y pv hx hy
         rw [w1]
         rcases hpu x hx pv (aef hy) with z1 | z1
         ·exact .inl (ve z1 w2.c)
         ·exact .inr (by cases pv <;> first | exact ⟨_, _, _, _, _, rfl⟩ | cases z1)
        ·obtain ⟨u, w1, w2⟩ := u3 x y _ hx hy
         rw [w1]
         exact w2
        ·have hq := Wx x y s5 n5 e5 f5 F5 hx hy b' oI
         refine ⟨by rw [← hFF]; exact .inr ⟨_, _, hq⟩, ?_⟩
         rintro rfl
         exact hc.ok.hv b' vis _ _ _ hq
        ·exact (hc.ok.hh b' _ _ _ _ _ _ (Wx x y s5 n5 e5 f5 F5 hx hy b' oI) (Wx x' y' s6 n6 e6 f6 F6 wA hy' b' mJ)).2
      ·obtain ⟨u, r1, r2⟩ := q4 x y pv hx hq
       exact ⟨u, r1, r2.fr lW hc.ok (fun _ _ _ _ _ _ _ _ => rfl)⟩
     | map es c =>
      obtain ⟨kp, vp, en, y1, y2, y3, _⟩ := q2.2 i hi
      rw [y1] at hj
      match j, hj with
      | 0, hj => simp at hj; rw [hj] at y2; cases y2
      | 1, hj => simp at hj; rw [hj] at y3; cases y3
      | y + 2, hj => simp at hj
     | _ => exact q2.elim
  ·obtain ⟨q1, q2⟩ := hc.heap k _ _ _ _ _ h4
   refine ⟨q1, ?_⟩
   cases hm : μ k with
   | none => rw [hm] at q2; exact q2
   | some pp =>
    obtain ⟨b, base⟩ := pp
    rw [hm] at q2
    obtain ⟨o, r1, r2⟩ := q2
    exact ⟨o, r1, r2.mono (fun _ _ _ _ _ _ hr => hr.fr lW hc.ok (fun _ _ _ _ _ _ _ _ => rfl))⟩
 ·intro a b ga sa na ea fa gb sb nb eb fb HF o o' ha hb hma oC
  have CQ : ∀ k gk sk nk ek fk, h1[k]? = some (ak.row gk sk nk ek fk) → ∃ gk sk nk ek fk, h[k]? = some (ak.row gk sk nk ek fk) := fun k gk sk nk ek fk hk => by
   rcases (inv k _ _ _ _ _ hk).2 with ⟨rfl, _⟩ | ⟨_, q⟩
   ·exact ⟨_, _, _, _, _, hh⟩
   ·exact ⟨_, _, _, _, _, q⟩
  obtain ⟨_, _, _, _, _, q1⟩ := CQ a _ _ _ _ _ ha
  obtain ⟨_, _, _, _, _, q2⟩ := CQ b _ _ _ _ _ hb
  exact hc.ok.inj a b _ _ _ _ _ _ _ _ _ _ _ _ _ q1 q2 hma oC
 ·obtain ⟨k0, _, _, _, _, _, _, q0, q1, q2⟩ := Cm b hb
  rcases gL k x y b hx with ⟨_, _, _, q⟩ | ⟨_, _, q⟩
  ·rw [← hFF] at q
   rcases q with ⟨_, _, _, _, _, _, r1, r2⟩ | ⟨_, _, r⟩
   ·exact q0 (hc.ok.inj k0 sub _ _ _ _ _ _ _ _ _ _ _ _ _ q1 r1 q2 r2)
   ·exact hc.ok.hv b ⟨k0, _, _, _, _, _, _, q1, q2⟩ _ _ _ r
  ·exact hc.ok.hv b ⟨k0, _, _, _, _, _, _, q1, q2⟩ _ _ _ q
 ·rcases gL k x y b hx with ⟨rfl, rfl, rfl, q⟩ | ⟨k1, _, q⟩
  ·rcases gL k' x' y' b wA with ⟨rfl, rfl, rfl, _⟩ | ⟨k2, _, r⟩
   ·exact ⟨rfl, rfl, rfl⟩
   ·exact absurd q (Tc _ _ _ _ k2 r)
  ·rcases gL k' x' y' b wA with ⟨rfl, rfl, rfl, r⟩ | ⟨k2, _, r⟩
   ·exact absurd r (Tc _ _ _ _ k1 q)
   ·exact hc.ok.hh b _ _ _ _ _ _ q r
variable {C : Start} {env : Env} {a : Act}
theorem nv.turn (hs : nv C μ h S env a w) {μ' : Mu} (hf : Fr μ h S w μ' h1 S w) (hc : Core μ' h1 S w) : nv C μ' h1 S env a w :=
 ⟨hc, hs.fr.trans hf, fun t => (hs.tmps t).fr hf hs.core.ok, hs.size, hs.XG, hs.defers⟩
theorem nv.ex (hs : nv C μ h S env a w) (hx : Ht h h1) : ∃ μ', nv C μ' h1 S env a w := by
 obtain ⟨μ', hf, hc⟩ := KP hs.core hx
 exact ⟨μ', hs.turn hf hc⟩
theorem nv.ab (hs : nv C μ h S env a w) {id i j sub : Nat} {h1 : (Nat → Prop) → List ak} (ha : ∀ F, Hu h id i j sub F (h1 F)) : ∃ F, nv C μ (h1 F) S env a w := by
 obtain ⟨hf, hc⟩ := KQ hs.core (ha (FAb μ h sub))
 exact ⟨_, hs.turn hf hc⟩
end
end Go.Am
