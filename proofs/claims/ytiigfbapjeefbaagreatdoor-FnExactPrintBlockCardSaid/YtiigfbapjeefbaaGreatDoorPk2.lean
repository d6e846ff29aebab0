/- Texts of the proof, joined and shortened. -/
import Derived.Test.YtiigfbapjeefbaaGreatDoorPk1
import Derived.MapKept
import Derived.Lib.ConvBytes
import Derived.Lib.AtoiErrMem
import Derived.Deep.LoopGhost
set_option linter.unusedVariables false
set_option linter.unusedSimpArgs false
namespace Go.Am
open Go Go.RowKit
section
variable {P : Program} {T : lu} {μ : Mu} {h : List ak} {S : Nat → Prop} {w : World}
theorem lP (t tx ty e : TypeId) (i : TypeInfo) (d : TypeDesc) (ht : P.underlying t = some (.slice e)) (hx : P.underlying tx = some d) (hd : (∃ e', d = .slice e') ∨ d = .string) (hi : P.info? e = some i)
  (sa : Option Addr) (lq tb : Nat) (xv : Value) (m : Nat) (news : Array Value) (w' : World) (hlen : (Builtin.lenOf xv).run P w = .ok m w) (hfc : (Builtin.firstCells i.size m xv).run P w = .ok news w) (rT : lq + m ≤ tb)
  (qW : match sa with | some a => (storeCells (a.add (lq * i.size)) news.toList).run P w = .ok () w' | none => w' = w) :
  (Builtin.append_ #[t, tx] ty #[.slice sa lq tb, xv]).run P w = .ok (.slice sa (lq + m) tb) w' := by
 rcases hd with ⟨e', rfl⟩ | rfl <;> cases sa with
 | none =>
  have qW : w' = w := qW
  subst qW
  simp [Builtin.append_, run_underlying ht, run_underlying hx, sizeOf, typeInfo, hi, hlen, rT, hfc]
 | some a =>
  have qW : (storeCells (a.add (lq * i.size)) news.toList).run P w = .ok () w' := qW
  simp [Builtin.append_, run_underlying ht, run_underlying hx, sizeOf, typeInfo, hi, hlen, rT, hfc, qW]
theorem n9 (t tx ty e : TypeId) (i : TypeInfo) (z : Value) (d : TypeDesc) (ht : P.underlying t = some (.slice e)) (hx : P.underlying tx = some d) (hd : (∃ e', d = .slice e') ∨ d = .string) (hi : P.info? e = some i) (hz : i.zero = some z)
  (sa : Option Addr) (lq tb : Nat) (xv : Value) (m : Nat) (uw news : Array Value) (hlen : (Builtin.lenOf xv).run P w = .ok m w) (CH : (Builtin.firstCells i.size lq (.slice sa lq tb)).run P w.drew = .ok uw w.drew)
  (hfc : (Builtin.firstCells i.size m xv).run P w.drew = .ok news w.drew) (hg : tb < lq + m) (Y4 : 0 < i.bytes) (mO : (lq + m) * i.bytes ≤ 140737488355328) :
  (Builtin.append_ #[t, tx] ty #[.slice sa lq tb, xv]).run P w = .ok (.slice (some ⟨w.heap.size, 0, none⟩) (lq + m) (grownCap w (lq + m) tb e))
   (w.drew.alloc (.cells (uw ++ news ++ Builtin.zeroCells z.cells (grownCap w (lq + m) tb e - (lq + m))) e)) := by
 have hn : ¬ (lq + m ≤ tb) := by omega
 have hle : lq + m ≤ (lq + m) * i.bytes := Nat.le_mul_of_pos_right _ Y4
 have Y5 : ¬ (9223372036854775807 < ((lq : Int) + (m : Int))) := by omega
 have aqJ := growslice_fits hg mO
 have aqu : ¬ (281474976710656 < Builtin.nextslicecap (lq + m) tb * i.bytes) := by omega
 rcases hd with ⟨e', rfl⟩ | rfl <;>
  simp [Builtin.append_, run_underlying ht, run_underlying hx, sizeOf, typeInfo, zeroValue, hi, hz, hlen, hn, Y5, aqu, Question.forced, hfc, CH, newRow, grownCap]
theorem BK (b off m sz : Nat) (fv : 0 < sz) (g : Nat → List PV) (hl : ∀ i, i < m → (g i).length = sz)
  (aI : ∀ (i j : Nat) (pv : PV), i < m → (g i)[j]? = some pv → ∃ u, w.cell? ⟨b, off + i * sz + j, none⟩ = some u ∧ k6 μ h S w pv u) :
  ∃ news : Array Value, news.size = m * sz ∧ (∀ (i j : Nat) (pv : PV), i < m → (g i)[j]? = some pv → ∃ u, news[i * sz + j]? = some u ∧ k6 μ h S w pv u) ∧
   (∀ u ∈ news.toList, u.oneCell' = true) ∧ ∀ w', bF w w' → (loadCells ⟨b, off, none⟩ (m * sz)).run P w' = .ok news w' := by
 let F : Nat → Value := fun q => (w.cell? ⟨b, off + q, none⟩).getD undef
 have hF : ∀ (i j : Nat) (pv : PV), i < m → (g i)[j]? = some pv → w.cell? ⟨b, off + (i * sz + j), none⟩ = some (F (i * sz + j)) ∧ k6 μ h S w pv (F (i * sz + j)) := fun i j pv hi hj => by
  obtain ⟨u, h1, h2⟩ := aI i j pv hi hj
  have e : off + (i * sz + j) = off + i * sz + j := by omega
  have e2 : F (i * sz + j) = u := by
   show (w.cell? ⟨b, off + (i * sz + j), none⟩).getD undef = u
   rw [e, h1]; rfl
  rw [e2, e]
  exact ⟨h1, h2⟩
 have hq : ∀ q, q < m * sz → ∃ pv, q / sz < m ∧ (g (q / sz))[q % sz]? = some pv := fun q hq => by
  have h1 : q / sz < m := (Nat.div_lt_iff_lt_mul fv).2 hq
  have h2 : q % sz < (g (q / sz)).length := by rw [hl _ h1]; exact Nat.mod_lt _ fv
  exact ⟨_, h1, Of h2⟩
 have x6 : ∀ q, q / sz * sz + q % sz = q := fun q => by rw [Nat.mul_comm]; exact Nat.div_add_mod q sz
 refine ⟨((List.range (m * sz)).map F).toArray, by simp, fun i j pv hi hj => ?_, fun u hu => ?_, fun w' ha => ?_⟩
 ·have AY : j < sz := by rw [← hl i hi]; exact (At.1 hj).1
  have cD : i * sz + j < m * sz := by
   have : (i + 1) * sz ≤ m * sz := arj _ hi
   rw [ars] at this
   omega
  exact ⟨F (i * sz + j), by simp [cD], (hF i j pv hi hj).2⟩
 ·simp only [ark, asi] at hu
  obtain ⟨q, hql, rfl⟩ := hu
  obtain ⟨pv, h1, h2⟩ := hq q hql
  have := (hF _ _ pv h1 h2).2.c.one
  rwa [x6] at this
 ·refine run_loadCells w' ⟨b, off, none⟩ (m * sz) F fun q hql => ?_
  obtain ⟨pv, h1, h2⟩ := hq q hql
  have := (hF _ _ pv h1 h2).1
  rw [x6] at this
  rw [Addr.add_lit]
  exact ha.cell this
theorem EE : ∀ {l : List PV}, noO l = true → ∀ {j : Nat} {pv : PV}, l[j]? = some pv → eA pv = false
 | [], _, j, pv, hj => by simp at hj
 | c :: r, h, 0, pv, hj => by
  simp at hj
  subst hj
  cases c <;> first | rfl | cases h
 | c :: r, h, j + 1, pv, hj => EE (l := r) (by cases c <;> first | exact h | cases h) atD
def Src (P : Program) (μ : Mu) (h : List ak) (S : Nat → Prop) (w : World) (xv : Value) (sz m : Nat) (g : Nat → List PV) : Prop :=
 (∀ i, i < m → (g i).length = sz) ∧ ∃ news : Array Value, news.size = m * sz ∧ (∀ (i j : Nat) (pv : PV), i < m → (g i)[j]? = some pv → ∃ u, news[i * sz + j]? = some u ∧ k6 μ h S w pv u) ∧
  (∀ u ∈ news.toList, u.oneCell' = true) ∧ ∀ w', bF w w' → (Builtin.lenOf xv).run P w' = .ok m w' ∧ (Builtin.firstCells sz m xv).run P w' = .ok news w'
theorem Src.empty (xv : Value) (sz : Nat) (g : Nat → List PV) (hx : ∃ a c, xv = .slice a 0 c) : Src P μ h S w xv sz 0 g := by
 obtain ⟨a, c, rfl⟩ := hx
 refine ⟨fun i hi => absurd hi atu, #[], by simp, fun i j pv hi => absurd hi atu, fun u hu => by simp at hu, fun w' _ => ⟨rfl, ?_⟩⟩
 cases a with
 | none => rfl
 | some a => simp [Builtin.firstCells, loadCells, loadCellsFrom]
theorem tc (hc : Core μ h S w) (id g off len sz n : Nat) (e : TypeId) (f : Nat → List PV) (hh : h[id]? = some (ak.row g sz n e f)) (v : Value) (hv : aZ μ h S w (.own id g off len) v) (fv : 0 < sz) : Src P μ h S w v sz len (fun i => f (off + i)) := by
 have hr := hv.nJ
 unfold aX at hr
 rw [hh] at hr
 obtain ⟨_, _, hr⟩ := hr
 obtain ⟨hle, hr⟩ := hr rfl
 obtain ⟨hl, aI⟩ := hc.heap id g sz n e f hh
 cases dW : μ id with
 | none =>
  rw [dW] at hr aI
  have hn : n = 0 := aI
  have h0 : len = 0 := by omega
  subst h0
  exact Src.empty v sz _ ⟨_, _, hr⟩
 | some p =>
  obtain ⟨b, base⟩ := p
  rw [dW] at hr aI
  obtain ⟨ad, cap, hv, Oq, rP, CJ⟩ := hr
  obtain ⟨cur, jv, mO, iY⟩ := bx.cells CJ aI
  rcases arQ len with h0 | h0
  ·subst h0
   exact Src.empty v sz _ ⟨_, _, hv⟩
  ·have rP := rP atu
   subst rP
   obtain ⟨news, q1, q2, q3, q4⟩ := BK (P := P) (μ := μ) (h := h) (S := S) (w := w) b (base + off * sz) len sz fv (fun i => f (off + i)) (fun i hi => hl _ atu) (fun i j pv hi hj => by
    obtain ⟨u, r1, r2⟩ := iY (off + i) j pv atu hj
    refine ⟨u, ?_, r2⟩
    rw [cell_of_row w b _ cur e (0, 0) jv, ← r1]
    congr 1
    rw [ars]
    omega)
   exact ⟨fun i hi => hl _ atu, news, q1, q2, q3, fun w' ha => ⟨by rw [hv]; rfl, by rw [hv]; exact q4 w' ha⟩⟩
theorem tf (hc : Core μ h S w) (x : PV) (xv : Value) (hx : aZ μ h S w x xv) (sz : Nat) (fv : 0 < sz) (K : Nat → (Nat → List PV) → Prop) (hp : BL x h sz K) : ∃ m g, K m g ∧ Src P μ h S w xv sz m g ∧ ∀ (i j : Nat) (pv : PV), i < m → (g i)[j]? = some pv → eA pv = false := by
 unfold BL at hp
 split at hp
 ·exact ⟨_, _, hp, Src.empty _ _ _ ⟨_, _, hx.mU⟩, fun i j pv hi => absurd hi (arL _)⟩
 ·rename_i bu m g
  replace hp := aR hp
  obtain ⟨vz, hp⟩ := hp
  obtain rfl := No vz
  refine ⟨m, g, hp, ?_⟩
  rcases hx.pF with ⟨a, c, ex, rfl⟩ | ⟨b, off, c, vf, ex, hS, hl, TX, aI, ku⟩
  ·exact ⟨Src.empty _ _ _ ⟨_, _, ex⟩, fun i j pv hi => absurd hi (arL _)⟩
  ·obtain ⟨news, q1, q2, q3, q4⟩ := BK (P := P) (μ := μ) (h := h) (S := S) (w := w) b off m sz fv g hl (fun i j pv hi hj => ⟨_, aI i j pv hi hj, (bn.jf (ku i j pv hi hj)).k (aE.no (ku i j pv hi hj))⟩)
   exact ⟨⟨hl, news, q1, q2, q3, fun w' ha => ⟨by rw [ex]; rfl, by rw [ex]; exact q4 w' ha⟩⟩, fun i j pv hi hj => aE.no (ku i j pv hi hj)⟩
 ·rename_i id gen off m
  split at hp
  ·rename_i g bu n e f hg
   obtain ⟨rfl, w9, hp⟩ := hp
   replace hp := aR hp
   obtain ⟨vz, hp⟩ := hp
   obtain rfl := No vz
   exact ⟨m, _, hp, tc hc id g off m sz n e f (dK hg) xv hx fv, fun i j pv hi hj => EE (w9 i hi) hj⟩
  ·exact asZ
 ·rename_i s
  replace hp := aR hp
  obtain ⟨vz, hp⟩ := hp
  obtain rfl := No vz
  refine ⟨_, _, hp, ⟨fun i hi => rfl, (s.map fun b => Value.int .u8 b.toNat).toArray, by simp, fun i j pv hi hj => ?_, fun u hu => ?_, fun w' _ => ⟨by rw [hx.j9]; rfl, ?_⟩⟩, fun i j pv hi hj => ?_⟩
  ·cases j with
   | zero =>
    simp at hj
    subst hj
    refine ⟨.int .u8 (s.getD i 0).toNat, ?_, aE.int _ _⟩
    rw [ard, Of hi]
    simp [hi]
   | succ j => simp at hj
  ·simp at hu
   obtain ⟨b, _, rfl⟩ := hu
   rfl
  ·rw [hx.j9]
   have e1 : (ByteArray.mk ⟨s⟩).extract 0 s.length = ByteArray.mk ⟨s⟩ := by rw [tN]; simp
   simp only [Builtin.firstCells, e1]
   simp
  ·cases j with
   | zero => simp at hj; subst hj; rfl
   | succ j => simp at hj
 ·exact asZ
end
section
variable {P : Program} {T : lu} {μ : Mu} {h : List ak} {S : Nat → Prop} {w : World}
theorem xn (hc : Core μ h S w) (id g g1 sz n : Nat) (e : TypeId) (f f1 : Nat → List PV) (hh : h[id]? = some (ak.row g sz n e f)) (dW : μ id = none) (hg : g < g1) :
  Fr μ h S w μ (h.set id (.row g1 sz 0 e f1)) S w ∧ Core μ (h.set id (.row g1 sz 0 e f1)) S w := by
 have hid : id < h.length := (At.1 hh).1
 have gZ : (h.set id (ak.row g1 sz 0 e f1))[id]? = some (ak.row g1 sz 0 e f1) := by simp [hid]
 have bS : ∀ j, j ≠ id → (h.set id (ak.row g1 sz 0 e f1))[j]? = h[j]? := fun j hj => by rw [arG (asb hj)]
 have ux : ∀ b, xc μ (h.set id (ak.row g1 sz 0 e f1)) b → xc μ h b := fun b hb => by
  obtain ⟨j, gj, lK, nj, ej, fj, n8, hj, hm⟩ := hb
  by_cases gH : j = id
  ·subst gH; rw [dW] at hm; cases hm
  ·rw [bS j gH] at hj; exact ⟨j, gj, lK, nj, ej, fj, n8, hj, hm⟩
 have lY : ∀ j x y b, cA (h.set id (ak.row g1 sz 0 e f1)) j x y b → cA h j x y b := fun j x y b ⟨gj, lK, nj, ej, fj, bu, n', e', f', F', q1, q2, q3, q4⟩ => by
  by_cases gH : j = id
  ·subst gH
   rw [gZ] at q1
   injection q1 with q1
   injection q1 with e1 e2 e3 e4 e5
   omega
  ·rw [bS j gH] at q1
   exact atr
 have kh : ∀ b, bH μ (h.set id (ak.row g1 sz 0 e f1)) b → bH μ h b := fun b hb => by
  rcases hb with hb | ⟨x, y, z, hb⟩
  ·exact .inl (ux b hb)
  ·exact .inr ⟨x, y, z, lY _ _ _ _ hb⟩
 have jk : Fr μ h S w μ (h.set id (.row g1 sz 0 e f1)) S w := by
  refine ⟨by simp, fun _ _ _ => rfl, fun _ hb => hb, fun _ hb => .inl hb, fun b hb => .inl (kh b hb), aqQ _, rfl, rfl, rfl, fun j gj lK nj ej fj hj => ?_, fun j hj => ?_, fun _ _ _ dS => dS, fun j gj lK nj ej fj b base hj hm k4 => ⟨k4, .inr ⟨⟨_, _, _, _, _, (bS j (by rintro rfl; rw [dW] at hm; cases hm)).trans hj⟩, hm⟩⟩, fun _ _ _ _ _ k4 => k4⟩
  ·by_cases gH : j = id
   ·subst gH
    rw [hh] at hj
    injection hj with hj
    injection hj with e1 e2 e3 e4 e5
    subst e1 e2 e3 e4 e5
    rw [gZ]
    exact ⟨by omega, fun he => absurd he atu⟩
   ·rw [bS j gH, hj]
    exact atp
  ·have gH : j ≠ id := by rintro rfl; rw [hh] at hj; cases hj
   rw [bS j gH]; exact hj
 refine ⟨jk, ⟨fun j gj lK nj ej fj hj => ?_, ⟨fun b hb => hc.ok.apart b (kh b hb), fun b hb => hc.ok.lt b (kh b hb), hc.ok.slt, ?_, hc.ok.known, fun b hb x y z hx => hc.ok.hv b (ux b hb) x y z (lY _ _ _ _ hx), fun b _ _ _ _ _ _ hx hy => hc.ok.hh b _ _ _ _ _ _ (lY _ _ _ _ hx) (lY _ _ _ _ hy)⟩⟩⟩
 ·by_cases gH : j = id
  ·subst gH
   rw [gZ] at hj
   injection hj with hj
   injection hj with e1 e2 e3 e4 e5
   subst e1 e2 e3 e4 e5
   refine ⟨fun i hi => absurd hi atu, ?_⟩
   rw [dW]
  ·rw [bS j gH] at hj
   obtain ⟨h1, h2⟩ := hc.heap j gj lK nj ej fj hj
   refine ⟨h1, ?_⟩
   cases hm : μ j with
   | none => rw [hm] at h2; exact h2
   | some p =>
    obtain ⟨b, base⟩ := p
    rw [hm] at h2
    obtain ⟨o, q1, q2⟩ := h2
    exact ⟨o, q1, q2.mono (fun _ _ _ _ _ _ hr => hr.fr jk hc.ok (fun _ _ _ _ _ _ _ _ => rfl))⟩
 ·intro i j gi NH ni ei fi gj lK nj ej fj b o o' hi hj lX ll
  have G7 : i ≠ id := by rintro rfl; rw [dW] at lX; cases lX
  have gH : j ≠ id := by rintro rfl; rw [dW] at ll; cases ll
  rw [bS i G7] at hi
  rw [bS j gH] at hj
  exact hc.ok.inj i j _ _ _ _ _ _ _ _ _ _ _ _ _ hi hj lX ll
variable {a : Act} {env : Env} {K : PV → List ak → Prop} {dst : Option Tmp} {ty : TypeId} {pos : String} {after : Array Edge} {guard : Option (Nat × Bool)}
theorem pk (z : Array Value) (n : Nat) : (Builtin.zeroCells z n).size = n * z.size := by simp [Builtin.zeroCells]
theorem kX {s x : Operand} {t tx : TypeId} {sv xv v' : Value} {w' : World} (hs : a.eval s = sv) (hx : a.eval x = xv) (hr : (Builtin.append_ #[t, tx] ty #[sv, xv]).run P w = .ok v' w') :
  (execOp a.eval ⟨dst, .call ⟨.builtin .append, #[s, x], #[t, tx]⟩, ty, pos, after, guard⟩).run P w = .ok (.value v') w' := by
 simp only [execOp, resolve, invoke, builtin, Sem.run_bind, Sem.run_pure, Result.andThen_ok, asy, adr, aqT, hs, hx, hr]
theorem Dj {sz l m : Nat} {f q : Nat → List PV} {uw news rest : Array Value} (ho : uw.size = l * sz) (hn : news.size = m * sz)
  (h1 : ∀ (i j : Nat) (pv : PV), i < l → (f i)[j]? = some pv → ∃ u, uw[i * sz + j]? = some u ∧ k6 μ h S w pv u)
  (h2 : ∀ (i j : Nat) (pv : PV), i < m → (q i)[j]? = some pv → ∃ u, news[i * sz + j]? = some u ∧ k6 μ h S w pv u)
  (Zc : ∀ i, i < l → (f i).length = sz) (nr : ∀ i, i < m → (q i).length = sz) :
  ∀ (i j : Nat) (pv : PV), i < l + m → (bif Nat.blt i l then f i else q (i - l))[j]? = some pv → ∃ u, (uw ++ news ++ rest)[i * sz + j]? = some u ∧ k6 μ h S w pv u := by
 intro i j pv hi hj
 by_cases pG : i < l
 ·have hb : Nat.blt i l = true := by simpa using pG
  rw [hb] at hj
  simp only [cond_true] at hj
  obtain ⟨u, q1, q2⟩ := h1 i j pv pG hj
  have cD : i * sz + j < uw.size := (aqU.1 q1).1
  exact ⟨u, by rw [arJ aty, arJ cD]; exact q1, q2⟩
 ·have hb : Nat.blt i l = false := by
   cases hh : Nat.blt i l with
   | true => exact (pG (by simpa using hh)).elim
   | false => rfl
  rw [hb] at hj
  simp only [cond_false] at hj
  obtain ⟨u, q1, q2⟩ := h2 (i - l) j pv atu hj
  have cD : (i - l) * sz + j < news.size := (aqU.1 q1).1
  have hmul : i * sz = l * sz + (i - l) * sz := by rw [← ars]; congr 1; omega
  refine ⟨u, ?_, q2⟩
  rw [arJ aty, Array.getElem?_append_right atu, ← q1]
  congr 1
  omega
theorem MH {sz l m : Nat} {f q : Nat → List PV} (Zc : ∀ i, i < l → (f i).length = sz) (nr : ∀ i, i < m → (q i).length = sz) : ∀ i, i < l + m → (bif Nat.blt i l then f i else q (i - l)).length = sz := by
 intro i hi
 by_cases pG : i < l
 ·have hb : Nat.blt i l = true := by simpa using pG
  rw [hb]; exact Zc i pG
 ·have hb : Nat.blt i l = false := by
   cases hh : Nat.blt i l with
   | true => exact (pG (by simpa using hh)).elim
   | false => rfl
  rw [hb]; exact nr _ atu
theorem tg (w : World) (o : Obj) : bF w (w.drew.alloc o) := (bF.drew w).trans (jP w.drew o)
theorem BM (hT : cd P T) (hc : Core μ h S w) (t tx e sz bytes : Nat) (zero : List PV) (d : TypeDesc) (eL : T.get t = .slice e sz bytes zero) (qC : P.underlying tx = some d) (hd : (∃ e', d = .slice e') ∨ d = .string)
  (s x : Operand) (hs : a.eval s = .slice none 0 0) (m : Nat) (g : Nat → List PV) (vX : Src P μ h S w (a.eval x) sz m g) (hgo : ∀ (i j : Nat) (pv : PV), i < m → (g i)[j]? = some pv → eA pv = false) (hb : m * bytes ≤ 140737488355328) (hK : K (.own h.length 0 0 m) (h ++ [.row 0 sz m e g])) :
  eG P ⟨dst, .call ⟨.builtin .append, #[s, x], #[t, tx]⟩, ty, pos, after, guard⟩ a μ h S w K := by
 obtain ⟨hu, fv, inf, zv, jT, lW, T2, hz, ND, NF, KQ⟩ := hT.slice _ _ _ _ _ eL
 have hbp := hT.bytes _ _ _ _ _ eL
 subst lW T2
 obtain ⟨hl, news, q1, q2, q3, q4⟩ := vX
 rcases arQ m with h0 | h0
 ·subst h0
  have hn : news = #[] := arY (by simpa using q1)
  subst hn
  obtain ⟨r1, r2⟩ := q4 w (bF.refl w)
  have hr := lP (P := P) (w := w) t tx ty e inf d hu qC hd jT none 0 0 (a.eval x) 0 #[] w r1 r2 (aqQ _) rfl
  obtain ⟨jk, mP⟩ := lD (w1 := w) hc inf.size 0 e g none rfl (bF.refl w) hl hgo
  refine eG.gC (kX hs rfl hr) hK ?_ mP jk
  show aX _ _ _ _ _ _ _ _
  unfold aX
  rw [aro (aqQ _), arT]
  refine ⟨⟨_, _, _, rfl⟩, aqQ _, fun _ => ⟨by omega, ?_⟩⟩
  rw [bg]
 ·obtain ⟨r1, _⟩ := q4 w (bF.refl w)
  obtain ⟨_, r2⟩ := q4 w.drew (bF.drew w)
  have hr := n9 (P := P) (w := w) t tx ty e inf zv d hu qC hd jT hz none 0 0 (a.eval x) m #[] news r1 rfl r2 atu hbp (by rw [are]; exact hb)
  rw [are] at hr
  obtain ⟨jk, mP⟩ := lD (w1 := w.drew.alloc (.cells (#[] ++ news ++ Builtin.zeroCells zv.cells (grownCap w m 0 e - m)) e)) hc inf.size m e g (some (w.heap.size, 0))
   ⟨aqQ _, _, heap_alloc_new w.drew _, by simp [q1], fun i j pv hi hj => by
    obtain ⟨u, p1, p2⟩ := q2 i j pv hi hj
    have cD := (aqU.1 p1).1
    exact ⟨u, by rw [ast, are, arJ cD]; exact p1, p2.c⟩⟩ (tg w _) hl hgo
  refine eG.gC (kX hs rfl hr) hK ?_ mP jk
  show aX _ _ _ _ _ _ _ _
  unfold aX
  rw [aro (aqQ _), arT]
  refine ⟨⟨_, _, _, rfl⟩, aqQ _, fun _ => ⟨by omega, ?_⟩⟩
  rw [bg]
  have NG := grownCap_ge w m 0 e
  refine ⟨_, grownCap w m 0 e, rfl, NG, fun _ => by simp, _, e, _, heap_alloc_new w.drew _, ?_⟩
  simp only [asE, pk, ND, q1]
  simp only [are]
  have : grownCap w m 0 e * inf.size = m * inf.size + (grownCap w m 0 e - m) * inf.size := by rw [← ars]; congr 1; omega
  simp
  omega
theorem Dk (hT : cd P T) (hc : Core μ h S w) (t tx e sz bytes : Nat) (zero : List PV) (d : TypeDesc) (eL : T.get t = .slice e sz bytes zero) (qC : P.underlying tx = some d) (hd : (∃ e', d = .slice e') ∨ d = .string)
  (s x : Operand) (id g off len n : Nat) (f : Nat → List PV) (hh : h[id]? = some (ak.row g sz n e f)) (hs : aZ μ h S w (.own id g off len) (a.eval s)) (m : Nat) (q : Nat → List PV) (vX : Src P μ h S w (a.eval x) sz m q) (hqo : ∀ (i j : Nat) (pv : PV), i < m → (q i)[j]? = some pv → eA pv = false)
  (hb : (len + m) * bytes ≤ 140737488355328)
  (hK : K (.own id (g + 1) 0 (len + m)) (h.set id (.row (g + 1) sz (len + m) e (fun i => bif Nat.blt i len then f (off + i) else q (i - len))))) :
  eG P ⟨dst, .call ⟨.builtin .append, #[s, x], #[t, tx]⟩, ty, pos, after, guard⟩ a μ h S w K := by
 obtain ⟨hu, fv, inf, zv, jT, lW, T2, hz, ND, NF, KQ⟩ := hT.slice _ _ _ _ _ eL
 have hbp := hT.bytes _ _ _ _ _ eL
 subst lW T2
 have hid : id < h.length := (At.1 hh).1
 obtain ⟨Zc, uw, o1, o2, o3, o4⟩ := tc (P := P) hc id g off len inf.size n e f hh _ hs fv
 obtain ⟨nr, news, q1, q2, q3, q4⟩ := vX
 have U0 := MH Zc nr
 have hjo : ∀ {sl : Nat}, off + sl ≤ n → ∀ (i j bu n' : Nat) (e' : TypeId) (f' : Nat → List PV) (F' : Nat → Prop), i < sl + m → (bif Nat.blt i sl then f (off + i) else q (i - sl))[j]? = some (.fh bu n' e' f' F') → off + i < n ∧ (f (off + i))[j]? = some (.fh bu n' e' f' F') := fun {sl} hsn i j bu n' e' f' F' hi hj => by
  by_cases pG : i < sl
  ·have hb : Nat.blt i sl = true := by simpa using pG
   rw [hb] at hj
   exact ⟨by omega, hj⟩
  ·have hb : Nat.blt i sl = false := by
    cases hh : Nat.blt i sl with
    | true => exact (pG (by simpa using hh)).elim
    | false => rfl
   rw [hb] at hj
   have := hqo (i - sl) j _ atu hj
   cases this
 have sH := hs.nJ
 unfold aX at sH
 rw [hh] at sH
 obtain ⟨⟨sa, sl, ou, GQ⟩, _, sH⟩ := sH
 obtain ⟨hle, sH⟩ := sH rfl
 have KP : sl = len := by
  obtain ⟨e1, _⟩ := o4 w (bF.refl w)
  rw [GQ] at e1
  simp [Builtin.lenOf] at e1
  exact e1
 subst KP
 obtain ⟨hl, aI⟩ := hc.heap id g _ n e f hh
 have Nt : ∀ b base, μ id = some (b, base) → ¬ mw w b := fun b base dW => by
  rw [dW] at sH
  obtain ⟨_, _, _, _, _, dS⟩ := sH
  exact dS.qw
 by_cases rT : sl + m ≤ ou
 ·-- in place
  obtain ⟨r1, r2⟩ := q4 w (bF.refl w)
  cases dW : μ id with
  | none =>
   rw [dW] at sH aI
   rw [GQ] at sH
   injection sH with e1 e2 e3
   subst e1 e2 e3
   have hm : m = 0 := by omega
   subst hm
   have hn : news = #[] := arY (by simpa using q1)
   subst hn
   have hr := lP (P := P) (w := w) t tx ty e inf d hu qC hd jT none 0 0 (a.eval x) 0 #[] w r1 r2 (aqQ _) rfl
   obtain ⟨jk, mP⟩ := xn hc id g (g + 1) inf.size n e f (fun i => bif Nat.blt i 0 then f (off + i) else q (i - 0)) hh dW (arI g)
   refine eG.gC (kX GQ rfl hr) hK ?_ mP jk
   show aX _ _ _ _ _ _ _ _
   unfold aX
   rw [asc hid]
   refine ⟨⟨_, _, _, rfl⟩, aqQ _, fun _ => ⟨by omega, ?_⟩⟩
   rw [dW]
  | some p =>
   obtain ⟨b, base⟩ := p
   rw [dW] at sH aI
   obtain ⟨ad, cap, hv, Oq, rP, dS⟩ := sH
   rw [GQ] at hv
   injection hv with e1 e2 e3
   subst e1 e3
   obtain ⟨cur, jv, mO, iY⟩ := bx.cells dS aI
   have MI : base + (off + ou) * inf.size ≤ cur.size := by
    obtain ⟨CO, e', z', p1, p2⟩ := dS
    rw [jv] at p1
    injection p1 with p1
    injection p1 with p1 _ _
    subst p1
    exact p2
   rw [ars] at MI
   have key : ∃ jZ : Array Value, jZ.size = cur.size ∧ (match (some ad : Option Addr) with | some a => (storeCells (a.add (sl * inf.size)) news.toList).run P w = .ok () (w.setRow b jZ) | none => w.setRow b jZ = w) ∧
     ∀ k, jZ[k]? = if base + off * inf.size + sl * inf.size ≤ k ∧ k < base + off * inf.size + sl * inf.size + m * inf.size then news[k - (base + off * inf.size + sl * inf.size)]? else cur[k]? := by
    rcases arQ m with h0 | h0
    ·subst h0
     have hn : news = #[] := arY (by simpa using q1)
     subst hn
     refine ⟨cur, rfl, ?_, fun k => by rw [if_neg atu]⟩
     show (storeCells (ad.add (sl * inf.size)) []).run P w = .ok () (w.setRow b cur)
     rw [setRow_self w b cur e (0, 0) jv]
     rfl
    ·have rP := rP atu
     subst rP
     have hmul : (sl + m) * inf.size ≤ ou * inf.size := arj _ rT
     rw [ars] at hmul
     have qW := run_storeCells_at P b (base + off * inf.size + sl * inf.size) e news.toList 0 cur w jv aty q3
     rw [arS] at qW
     refine ⟨(cur.toList.take (base + off * inf.size + sl * inf.size) ++ news.toList ++ cur.toList.drop (base + off * inf.size + sl * inf.size + news.toList.length)).toArray, ?_, ?_, fun k => ?_⟩
     ·simp; omega
     ·show (storeCells ((⟨b, base + off * inf.size, none⟩ : Addr).add (sl * inf.size)) news.toList).run P w = .ok () _
      rw [Addr.add_lit]
      exact qW
     ·have hsp := qE cur.toList news.toList (base + off * inf.size + sl * inf.size) k aty
      rw [asz, hsp]
      simp only [arp, arN, q1]
   obtain ⟨jZ, c1, c2, c3⟩ := key
   have hr := lP (P := P) (w := w) t tx ty e inf d hu qC hd jT (some ad) sl ou (a.eval x) m news (w.setRow b jZ) r1 r2 rT c2
   have hmul : (sl + m) * inf.size ≤ ou * inf.size := arj _ rT
   rw [ars] at hmul
   have lL := mN (w1 := w.setRow b jZ) hc id g (g + 1) inf.size n (sl + m) e f (fun i => bif Nat.blt i sl then f (off + i) else q (i - sl)) hh b (base + off * inf.size) jZ atu (fun he => absurd he atu)
    (.inr ⟨base, cur, dW, jv, c1.symm⟩) (setRow_heap w b cur _ e _ jv) (by rw [c1, ars]; omega) (fun b' _ nq => setRow_other w b b' _ nq) atw rfl rfl rfl U0 Nt
    (fun i j pv hi hj => by
     have AY : j < inf.size := by rw [← U0 i hi]; exact (At.1 hj).1
     rw [c3]
     by_cases pG : i < sl
     ·have hbl : Nat.blt i sl = true := by simpa using pG
      rw [hbl] at hj
      simp only [cond_true] at hj
      have lX : (i + 1) * inf.size ≤ sl * inf.size := arj _ pG
      rw [ars] at lX
      rw [if_neg atu]
      obtain ⟨u, p1, p2⟩ := iY (off + i) j pv atu hj
      refine ⟨u, ?_, p2⟩
      rw [← p1]
      congr 1
      rw [ars]
      omega
     ·have hbl : Nat.blt i sl = false := by
       cases hh' : Nat.blt i sl with
       | true => exact (pG (by simpa using hh')).elim
       | false => rfl
      rw [hbl] at hj
      simp only [cond_false] at hj
      have e1 : i * inf.size = sl * inf.size + (i - sl) * inf.size := by rw [← ars]; congr 1; omega
      have e2 : (i - sl + 1) * inf.size ≤ m * inf.size := arj _ atu
      rw [ars] at e2
      rw [if_pos atu]
      obtain ⟨u, p1, p2⟩ := q2 (i - sl) j pv atu hj
      exact ⟨u, by rw [← p1]; congr 1; omega, p2⟩) off (hjo atu)
   obtain ⟨jk, mP⟩ := lL
   refine eG.gC (kX GQ rfl hr) hK ?_ mP jk
   show aX _ _ _ _ _ _ _ _
   unfold aX
   rw [asc hid]
   refine ⟨⟨_, _, _, rfl⟩, aqQ _, fun _ => ⟨by omega, ?_⟩⟩
   rw [bg]
   refine ⟨ad, ou, rfl, rT, fun hc0 => ?_, jZ, e, _, setRow_heap w b cur _ e _ jv, ?_⟩
   ·rw [rP hc0, Nat.zero_mul, arS]
   ·rw [c1, are]; omega
 ·-- it grows
  obtain ⟨r1, _⟩ := q4 w (bF.refl w)
  obtain ⟨_, r2⟩ := q4 w.drew (bF.drew w)
  obtain ⟨_, s2⟩ := o4 w.drew (bF.drew w)
  rw [GQ] at s2
  have hr := n9 (P := P) (w := w) t tx ty e inf zv d hu qC hd jT hz sa sl ou (a.eval x) m uw news r1 s2 r2 atu hbp hb
  have NG := grownCap_ge w (sl + m) ou e
  have lL := mN (w1 := w.drew.alloc (.cells (uw ++ news ++ Builtin.zeroCells zv.cells (grownCap w (sl + m) ou e - (sl + m))) e)) hc id g (g + 1) inf.size n (sl + m) e f (fun i => bif Nat.blt i sl then f (off + i) else q (i - sl)) hh
   w.heap.size 0 (uw ++ news ++ Builtin.zeroCells zv.cells (grownCap w (sl + m) ou e - (sl + m))) atu (fun he => absurd he atu) (.inl (aqQ _)) (heap_alloc_new w.drew _)
   (by simp only [asE, o1, q1, ars]; omega) (fun b cD _ => heap_alloc_old w.drew _ cD) atw rfl rfl rfl U0 Nt
   (fun i j pv hi hj => by
    rw [are]
    exact Dj o1 q1 o2 q2 Zc nr i j pv hi hj) off (hjo atu)
  obtain ⟨jk, mP⟩ := lL
  refine eG.gC (kX GQ rfl hr) hK ?_ mP jk
  show aX _ _ _ _ _ _ _ _
  unfold aX
  rw [asc hid]
  refine ⟨⟨_, _, _, rfl⟩, aqQ _, fun _ => ⟨by omega, ?_⟩⟩
  rw [bg]
  refine ⟨_, grownCap w (sl + m) ou e, rfl, NG, fun _ => by simp, _, e, _, heap_alloc_new w.drew _, ?_⟩
  simp only [asE, pk, ND, o1, q1, are]
  have : grownCap w (sl + m) ou e * inf.size = (sl + m) * inf.size + (grownCap w (sl + m) ou e - (sl + m)) * inf.size := by rw [← ars]; congr 1; omega
  rw [ars] at this
  omega
theorem zK (hT : cd P T) (hc : Core μ h S w) (ht : ∀ t, aZ μ h S w (env t) (a.tmps.getD t undef)) (args : Array Operand) (ts : Array TypeId) (hp : pop P T (.call ⟨.builtin .append, args, ts⟩) env h K) :
  eG P ⟨dst, .call ⟨.builtin .append, args, ts⟩, ty, pos, after, guard⟩ a μ h S w K := by
 obtain ⟨args⟩ := args
 obtain ⟨ts⟩ := ts
 simp only [pop] at hp
 split at hp
 ·rename_i s x t tx
  have hs := bh ht s
  have hx := bh ht x
  have main : ∀ (e sz bytes : Nat) (zero : List PV) (d : TypeDesc), T.get t = .slice e sz bytes zero → P.underlying tx = some d → ((∃ e', d = .slice e') ∨ d = .string) → mo e sz bytes (ev env s) (ev env x) h K →
    eG P ⟨dst, .call ⟨.builtin .append, #[s, x], #[t, tx]⟩, ty, pos, after, guard⟩ a μ h S w K := by
   intro e sz bytes zero d eL hxu hd hp
   have fv := (hT.slice _ _ _ _ _ eL).2.1
   unfold mo at hp
   split at hp
   ·rename_i hes
    rw [hes] at hs
    obtain ⟨_, g, ⟨hb, m, f', rfl, oB, hK⟩, vX, hgo⟩ := tf (P := P) hc _ _ hx sz fv _ hp
    exact eG.rows (BM hT hc t tx e sz bytes zero d eL hxu hd s x hs.mU m g vX hgo hb ⟨_, cM.snoc _ _ _ _ _ _ _ oB, hK⟩)
   ·rename_i id gen off len hes
    rw [hes] at hs
    split at hp
    ·rename_i g bu n e' f hg
     obtain ⟨rfl, hp⟩ := hp
     replace hp := aR hp
     obtain ⟨vz, hp⟩ := hp
     simp only [As] at vz
     obtain rfl := No vz.1
     obtain rfl := No vz.2
     obtain ⟨m, q, ⟨hb, n', f', rfl, oB, hK⟩, vX, hqo⟩ := tf (P := P) hc _ _ hx sz fv _ hp
     exact eG.rows (Dk hT hc t tx e sz bytes zero d eL hxu hd s x id g off len n f (dK hg) hs m q vX hqo hb ⟨_, cM.set _ _ _ _ _ _ _ _ oB, hK⟩)
    ·exact asZ
   ·exact asZ
  split at hp
  ·rename_i e sz bytes zero e' bu aaX am4 eL htx
   exact main e sz bytes zero _ eL (hT.slice _ _ _ _ _ htx).1 (.inl ⟨_, rfl⟩) hp
  ·rename_i e sz bytes zero eL htx
   exact main e sz bytes zero _ eL (hT.str _ htx) (.inr rfl) hp
  ·exact asZ
 ·exact asZ
theorem aZ.Qk {pv : PV} {v : Value} (hr : gn μ h S w pv v) : aZ μ h S w pv v := by
 cases pv with
 | aV ps => exact (show False from hr).elim
 | _ => exact hr
theorem Dl (hc : Core μ h S w) (ht : ∀ t, aZ μ h S w (env t) (a.tmps.getD t undef)) (fo : Operand) (args : Array Operand) (ts : Array TypeId) (hp : pop P T (.call ⟨.value fo, args, ts⟩) env h K) :
  eG P ⟨dst, .call ⟨.value fo, args, ts⟩, ty, pos, after, guard⟩ a μ h S w K := by
 have CH := bh ht fo
 simp only [pop] at hp
 split at hp
 ·rename_i f hef
  rw [hef] at CH
  replace hp := aR hp
  obtain ⟨U1, R, ⟨⟨fn, c, N3, BN, r7⟩, hA⟩, hK⟩ := hp
  simp only [aqX] at U1
  have BO := hA w (args.map a.eval) μ S hc.heap hc.ok atw (fun j pv hj => by
   rw [arl] at hj
   cases hx : args.toList[j]? with
   | none => rw [hx] at hj; cases hj
   | some x =>
    rw [hx] at hj
    injection hj with hj
    subst hj
    refine ⟨a.eval x, by rw [ass]; simp only [arp] at hx; rw [hx]; rfl, ?_⟩
    have hv := bh ht x
    have nq := U1 x (ari hx)
    cases he : ev env x with
    | aV ps => rw [he] at nq; cases nq
    | _ => rw [he] at hv; exact hv)
  intro next Q hn
  have jx : (execOp a.eval ⟨dst, .call ⟨.value fo, args, ts⟩, ty, pos, after, guard⟩).run P w = .ok (.enter f (args.map a.eval)) w := by
   simp only [execOp, resolve, CH.KM, Deferred.ofValue, invoke, callFunc, Sem.run_bind, Sem.run_pure, Result.andThen_ok, Array.append_empty, ast]
   have vY : ¬ fn.name = "runtime.NumGoroutine" := by simpa using r7
   simp [program, Sem.run, Result.andThen, N3, vY, BN]
  unfold Oper.wp
  rw [jx]
  show Calls P f (args.map a.eval) w _
  refine BO.mono fun e w' ⟨v, res, h', μ', S', he, hR, hv, hH, hM, hF⟩ => ?_
  subst he
  exact hn res v h' μ' S' w' (hK res h' hR) hv ⟨hH, hM⟩ hF
 ·rename_i f bq hef
  rw [hef] at CH
  replace hp := aR hp
  obtain ⟨U1, R, ⟨⟨fn, c, N3, BN, r7⟩, hA⟩, hK⟩ := hp
  simp only [aqX] at U1
  obtain ⟨vs, hvf, hvl, hvc⟩ := (show k8 μ h w f bq (a.eval fo) from CH)
  have BO := hA w (args.map a.eval ++ vs) μ S hc.heap hc.ok (by simp [hvl]) (fun j pv hj => by
   by_cases cD : j < args.size
   ·rw [aru (by simpa using cD), arl] at hj
    cases hx : args.toList[j]? with
    | none => rw [hx] at hj; cases hj
    | some x =>
     rw [hx] at hj
     injection hj with hj
     subst hj
     refine ⟨a.eval x, by rw [arJ (by simpa using cD), ass]; simp only [arp] at hx; rw [hx]; rfl, ?_⟩
     have hv := bh ht x
     have nq := U1 x (ari hx)
     cases he : ev env x with
     | aV ps => rw [he] at nq; cases nq
     | _ => rw [he] at hv; exact hv
   ·rw [aro (by simpa using Nat.le_of_not_lt cD), arl] at hj
    simp only [aso, arN] at hj
    cases hx : bq[j - args.size]? with
    | none => rw [hx] at hj; cases hj
    | some p =>
     rw [hx] at hj
     injection hj with hj
     subst hj
     obtain ⟨u, q1, q2⟩ := hvc _ p hx
     exact ⟨u, by rw [Array.getElem?_append_right (by simpa using Nat.le_of_not_lt cD)]; simpa using q1, q2⟩)
  intro next Q hn
  have jx : (execOp a.eval ⟨dst, .call ⟨.value fo, args, ts⟩, ty, pos, after, guard⟩).run P w = .ok (.enter f (args.map a.eval ++ vs)) w := by
   simp only [execOp, resolve, hvf, Deferred.ofValue, invoke, callFunc, Sem.run_bind, Sem.run_pure, Result.andThen_ok, ast]
   have vY : ¬ fn.name = "runtime.NumGoroutine" := by simpa using r7
   simp [program, Sem.run, Result.andThen, N3, vY, BN]
  unfold Oper.wp
  rw [jx]
  show Calls P f (args.map a.eval ++ vs) w _
  refine BO.mono fun e w' ⟨v, res, h', μ', S', he, hR, hv, hH, hM, hF⟩ => ?_
  subst he
  exact hn res v h' μ' S' w' (hK res h' hR) hv ⟨hH, hM⟩ hF
 ·exact asZ
theorem se : ∀ (z xs ys : List PV) (b : Bool), xR z xs ys = some b → b = true → ∀ (j : Nat) (p q : PV), xs[j]? = some p → ys[j]? = some q → p = q ∧ ((∃ k n, p = .int k n) ∨ (∃ b, p = .bool b) ∨ ∃ s, p = .str s)
 | z, xs, ys, b, hk, hb, j, p, q, hp, hq => by
  subst hb
  unfold xR at hk
  split at hk
  ·simp at hp
  ·obtain ⟨hg, c, hc, e⟩ := bD hk
   simp only [As] at hg
   obtain rfl := dq hg.1
   obtain rfl := dq hg.2
   have e := e.symm
   simp only [As, beq_iff_eq] at e
   obtain ⟨rfl, rfl⟩ := e
   cases j with
   | zero => simp at hp hq; subst hp; subst hq; exact ⟨rfl, .inl ⟨_, _, rfl⟩⟩
   | succ j => exact se _ _ _ _ hc rfl j p q (by simpa using hp) (by simpa using hq)
  ·obtain ⟨hg, c, hc, e⟩ := bD hk
   have e := e.symm
   simp only [As, beq_iff_eq] at e
   obtain ⟨rfl, rfl⟩ := e
   cases j with
   | zero => simp at hp hq; subst hp; subst hq; exact ⟨rfl, .inr (.inl ⟨_, rfl⟩)⟩
   | succ j => exact se _ _ _ _ hc rfl j p q (by simpa using hp) (by simpa using hq)
  ·obtain ⟨hg, c, hc, e⟩ := bD hk
   have e := e.symm
   simp only [As, beq_iff_eq] at e
   obtain ⟨rfl, rfl⟩ := e
   cases j with
   | zero => simp at hp hq; subst hp; subst hq; exact ⟨rfl, .inr (.inr ⟨_, rfl⟩)⟩
   | succ j => exact se _ _ _ _ hc rfl j p q (by simpa using hp) (by simpa using hq)
  ·cases hk
theorem sf : ∀ (z xs ys : List PV) (b : Bool), xR z xs ys = some b → ys.length = xs.length
 | z, xs, ys, b, hk => by
  unfold xR at hk
  split at hk
  ·rfl
  ·obtain ⟨_, c, hc, _⟩ := bD hk
   simp [sf _ _ _ c hc]
  ·obtain ⟨_, c, hc, _⟩ := bD hk
   simp [sf _ _ _ c hc]
  ·obtain ⟨_, c, hc, _⟩ := bD hk
   simp [sf _ _ _ c hc]
  ·cases hk
theorem Dm (s : List UInt8) : ((ByteArray.mk ⟨s⟩) == (ByteArray.mk ⟨s⟩)) = true := by
 show ((Array.mk s) == (Array.mk s)) = true
 simp
theorem th (n : Nat) {p : PV} {u v : Value} (hp : (∃ k n, p = .int k n) ∨ (∃ b, p = .bool b) ∨ ∃ s, p = .str s) (hu : nZ p u) (hv : bn μ h S w p v) : Instr.sameBits n u v = true := by
 rcases hp with ⟨k, m, rfl⟩ | ⟨b, rfl⟩ | ⟨s, rfl⟩
 ·have hu : u = _ := hu
  have hv : aE S w (.int k m) v := hv
  cases hv; subst hu
  cases n <;> simp [Instr.sameBits]
 ·have hu : u = _ := hu
  have hv : aE S w (.bool b) v := hv
  cases hv; subst hu
  cases n <;> simp [Instr.sameBits]
 ·have hu : u = _ := hu
  have hv : aE S w (.str s) v := hv
  cases hv; subst hu
  cases n <;> simp [Instr.sameBits, Dm]
theorem MJ {ti : TI} {kv kp : PV} {key ek : Value} (Nu : aZ μ h S w kv key) (hs : mD kp ek) (hq : kl ti kv kp = some true) : Instr.sameBits 10000 ek key = true := by
 unfold kl at hq
 split at hq
 ·obtain ⟨hg, c, hc, e⟩ := bD hq
  simp only [As] at hg
  obtain rfl := dq hg.1
  obtain rfl := dq hg.2
  have e := e.symm
  simp only [As, beq_iff_eq] at e
  obtain ⟨rfl, _⟩ := e
  exact th (μ := μ) (h := h) (S := S) (w := w) 10000 (.inl ⟨_, _, rfl⟩) hs Nu
 ·have hq := arH hq
  rw [beq_iff_eq] at hq
  subst hq
  exact th (μ := μ) (h := h) (S := S) (w := w) 10000 (.inr (.inr ⟨_, rfl⟩)) hs Nu
 ·split at hq
  ·rename_i z xs ys _ _
   obtain ⟨NA, rfl, x1, x2⟩ := (show gn μ h S w (.agg xs) key from Nu)
   obtain ⟨vys, rfl, y1, y2⟩ := (show ∃ vs : Array Value, ek = .agg vs ∧ vs.size = ys.length ∧ ∀ (j : Nat) (pv : PV), ys[j]? = some pv → ∃ u : Value, vs[j]? = some u ∧ nZ pv u from hs)
   have hl := sf _ _ _ _ hq
   rw [show 10000 = 9999 + 1 from rfl, Instr.sameBits]
   rw [As]
   refine ⟨by rw [beq_iff_eq, x1, y1, hl], aqX.2 (fun p hp => ?_)⟩
   obtain ⟨j, hj, rfl⟩ := arX.1 hp
   have Eg := hj
   rw [List.length_zip, arN, arN] at Eg
   have hjx : j < xs.length := by omega
   have hjy : j < ys.length := by omega
   obtain ⟨e1, e2⟩ := se _ _ _ _ hq rfl j _ _ (Of hjx) (Of hjy)
   obtain ⟨u, hu, sR⟩ := y2 j _ (Of hjy)
   obtain ⟨v, hv, lz⟩ := x2 j _ (Of hjx)
   rw [← e1] at sR
   have := th 9999 e2 sR lz
   rw [List.getElem_zip]
   simp only [Array.getElem_toList]
   have h1 : vys[j]'atu = u := by rw [arn atu] at hu; exact arH hu
   have h2 : NA[j]'atu = v := by rw [arn atu] at hv; exact arH hv
   rw [h1, h2]
   exact this
  ·cases hq
 ·cases hq
theorem MK {w1 : World} (hc : Core μ h S w) (id g sz n n1 : Nat) (e : TypeId) (f f1 : Nat → List PV) (hh : h[id]? = some (ak.row g sz n e f)) (b base : Nat) (es : Array MapEntry) (c : Nat) (dW : μ id = some (b, base))
  (hb : w.heap[b]? = some (.map es c)) (ML : Array MapEntry) (c1 : Nat) (hw : w1.heap[b]? = some (.map ML c1)) (iu : ∀ b', b' ≠ b → w1.heap[b']? = w.heap[b']?) (vJ : w1.heap.size = w.heap.size) (hos : w1.os = w.os)
  (KS : w1.tape = w.tape) (KT : w1.output = w.output) (hl : ∀ i, i < n1 → (f1 i).length = sz)
  (hr : ML.size = n1 ∧ ∀ i, i < n1 → ∃ (kp vp : PV) (en : MapEntry), f1 i = [kp, vp] ∧ ir kp = true ∧ ir vp = true ∧ ML[i]? = some en ∧ mD kp en.key ∧ mD vp en.val) :
  Fr μ h S w μ (h.set id (.row (g + 1) sz n1 e f1)) S w1 ∧ Core μ (h.set id (.row (g + 1) sz n1 e f1)) S w1 := by
 have hid : id < h.length := (At.1 hh).1
 have gZ : (h.set id (ak.row (g + 1) sz n1 e f1))[id]? = some (ak.row (g + 1) sz n1 e f1) := by simp [hid]
 have bS : ∀ j, j ≠ id → (h.set id (ak.row (g + 1) sz n1 e f1))[j]? = h[j]? := fun j hj => by rw [arG (asb hj)]
 have hvb : xc μ h b := ⟨id, g, sz, n, e, f, base, hh, dW⟩
 have vL : bH μ h b := .inl hvb
 have ux : ∀ b', xc μ (h.set id (ak.row (g + 1) sz n1 e f1)) b' → xc μ h b' := fun b' kr => by
  obtain ⟨j, gj, lK, nj, ej, fj, n8, hj, hm⟩ := kr
  by_cases gH : j = id
  ·subst gH; exact ⟨j, g, sz, n, e, f, n8, hh, hm⟩
  ·rw [bS j gH] at hj; exact ⟨j, gj, lK, nj, ej, fj, n8, hj, hm⟩
 have lY : ∀ j x y b, cA (h.set id (ak.row (g + 1) sz n1 e f1)) j x y b → cA h j x y b := fun j x y b ⟨gj, lK, nj, ej, fj, bu, n', e', f', F', q1, q2, q3, q4⟩ => by
  by_cases gH : j = id
  ·subst gH
   rw [gZ] at q1
   injection q1 with q1
   injection q1 with e1 e2 e3 e4 e5
   subst e3 e5
   obtain ⟨kp, vp, en, r1, r2, r3, _⟩ := hr.2 x q2
   rw [r1] at q3
   match y, q3 with
   | 0, q3 => simp at q3; rw [q3] at r2; cases r2
   | 1, q3 => simp at q3; rw [q3] at r3; cases r3
   | y + 2, q3 => simp at q3
  ·rw [bS j gH] at q1
   exact atr
 have kh : ∀ b', bH μ (h.set id (ak.row (g + 1) sz n1 e f1)) b' → bH μ h b' := fun b' kr => by
  rcases kr with kr | ⟨x, y, z, kr⟩
  ·exact .inl (ux _ kr)
  ·exact .inr ⟨x, y, z, lY _ _ _ _ kr⟩
 have vK : ∀ j x y b', cA h j x y b' → w1.heap[b']? = w.heap[b']? := fun j x y b' hx => iu b' (by
  rintro rfl
  exact hc.ok.hv b' hvb j x y hx)
 have jk : Fr μ h S w μ (h.set id (.row (g + 1) sz n1 e f1)) S w1 := by
  refine ⟨by simp, fun b' _ w9 => iu b' (fun he => w9 (he ▸ vL)), fun _ hb => hb, fun _ hb => .inl hb, fun b' kr => .inl (kh b' kr), by omega, hos, KS, KT, fun j gj lK nj ej fj hj => ?_, fun j hj => ?_, fun b' k _ dS => ?_, fun j gj lK nj ej fj b' jM hj hm k4 => ?_, fun b' j x y hx k4 => let ⟨es2, c2, q⟩ := k4; ⟨es2, c2, (vK j x y b' hx).trans q⟩⟩
  ·by_cases gH : j = id
   ·subst gH
    rw [hh] at hj
    injection hj with hj
    injection hj with e1 e2 e3 e4 e5
    subst e1 e2 e3 e4 e5
    rw [gZ]
    exact ⟨by omega, fun he => absurd he atu⟩
   ·rw [bS j gH, hj]
    exact atp
  ·have gH : j ≠ id := by rintro rfl; rw [hh] at hj; cases hj
   rw [bS j gH]; exact hj
  ·have nq : b' ≠ b := by
    rintro rfl
    exact dS.qw ⟨es, c, hb⟩
   exact iq.of_same (iu b' nq) dS
  ·have hex : ∃ g' bu n' e' f', (h.set id (ak.row (g + 1) sz n1 e f1))[j]? = some (ak.row g' bu n' e' f') := by
    by_cases gH : j = id
    ·subst gH; exact ⟨_, _, _, _, _, gZ⟩
    ·exact ⟨_, _, _, _, _, (bS j gH).trans hj⟩
   refine ⟨?_, .inr ⟨hex, hm⟩⟩
   by_cases Ej : b' = b
   ·subst Ej; exact ⟨ML, c1, hw⟩
   ·obtain ⟨es2, c2, q⟩ := k4
    exact ⟨es2, c2, (iu b' Ej).trans q⟩
 refine ⟨jk, ⟨fun j gj lK nj ej fj hj => ?_, ⟨fun b hb => hc.ok.apart b (kh b hb), fun b hb => by rw [vJ]; exact hc.ok.lt b (kh b hb), fun b hb => by rw [vJ]; exact hc.ok.slt b hb, ?_, hc.ok.vM jk, fun b hb x y z hx => hc.ok.hv b (ux b hb) x y z (lY _ _ _ _ hx), fun b _ _ _ _ _ _ hx hy => hc.ok.hh b _ _ _ _ _ _ (lY _ _ _ _ hx) (lY _ _ _ _ hy)⟩⟩⟩
 ·by_cases gH : j = id
  ·subst gH
   rw [gZ] at hj
   injection hj with hj
   injection hj with e1 e2 e3 e4 e5
   subst e1 e2 e3 e4 e5
   refine ⟨hl, ?_⟩
   rw [dW]
   exact ⟨_, hw, hr⟩
  ·rw [bS j gH] at hj
   obtain ⟨h1, h2⟩ := hc.heap j gj lK nj ej fj hj
   refine ⟨h1, ?_⟩
   cases hm : μ j with
   | none => rw [hm] at h2; exact h2
   | some p =>
    obtain ⟨b', jM⟩ := p
    rw [hm] at h2
    obtain ⟨o, q1, q2⟩ := h2
    have Ej : b' ≠ b := by
     rintro rfl
     exact gH (hc.ok.inj j id _ _ _ _ _ _ _ _ _ _ _ _ _ hj hh hm dW)
    exact ⟨o, (iu b' Ej).trans q1, q2.mono (fun i y pv v hi hy hr => hr.fr jk hc.ok (fun bu n' e' f' F' he b2 nv => vK j i y b2 ⟨_, _, _, _, _, _, _, _, _, _, hj, hi, he ▸ hy, nv⟩))⟩
 ·intro i j gi NH ni ei fi gj lK nj ej fj b' o o' hi hj lX ll
  have back : ∀ k gk szk nk ek fk, (h.set id (ak.row (g + 1) sz n1 e f1))[k]? = some (ak.row gk szk nk ek fk) → ∃ g' bu n' e' f', h[k]? = some (ak.row g' bu n' e' f') := fun k gk szk nk ek fk hk => by
   by_cases sW : k = id
   ·subst sW; exact ⟨_, _, _, _, _, hh⟩
   ·rw [bS k sW] at hk; exact ⟨_, _, _, _, _, hk⟩
  obtain ⟨_, _, _, _, _, h1⟩ := back _ _ _ _ _ _ hi
  obtain ⟨_, _, _, _, _, h2⟩ := back _ _ _ _ _ _ hj
  exact hc.ok.inj i j _ _ _ _ _ _ _ _ _ _ _ _ _ h1 h2 lX ll
theorem GR {w1 : World} (hc : Core μ h S w) (ha : bF w w1) (b : Nat) (hb : w.heap.size ≤ b) (lp : b < w1.heap.size) : Fr μ h S w μ h (fun x => S x ∨ x = b) w1 ∧ Core μ h (fun x => S x ∨ x = b) w1 := by
 have jk : Fr μ h S w μ h (fun x => S x ∨ x = b) w1 := by
  refine ⟨aqQ _, fun b' kr _ => ha.blocks b' kr, fun _ hs => .inl hs, fun b' kr => ?_, fun _ ho => .inl ho, ha.size, ha.os, ha.tape, ha.output, fun j gj lK nj ej fj hj => ?_, fun _ hd => hd, fun b' k ho dS => ?_, fun j gj lK nj ej fj b' jM hj hm k4 => ?_, fun b' j x y hx k4 => let ⟨es2, c2, q⟩ := k4; ⟨es2, c2, (ha.blocks b' (hc.ok.lt b' (.inr ⟨j, x, y, hx⟩))).trans q⟩⟩
  ·rcases kr with kr | rfl
   ·exact .inl kr
   ·exact .inr (.inr hb)
  ·rw [hj]; exact ⟨aqQ _, fun _ => ⟨rfl, rfl, rfl, rfl⟩⟩
  ·exact iq.of_same (ha.blocks b' (hc.ok.lt b' ho)) dS
  ·obtain ⟨es, c, q⟩ := k4
   exact ⟨⟨es, c, (ha.blocks b' (hc.ok.lt b' (.inl ⟨_, _, _, _, _, _, _, hj, hm⟩))).trans q⟩, .inr ⟨⟨_, _, _, _, _, hj⟩, hm⟩⟩
 refine ⟨jk, ⟨fun j gj lK nj ej fj hj => ?_, ⟨fun b' ho hs => ?_, fun b' ho => art (hc.ok.lt b' ho) ha.size, fun b' hs => ?_, hc.ok.inj, hc.ok.vM jk, hc.ok.hv, hc.ok.hh⟩⟩⟩
 ·obtain ⟨h1, h2⟩ := hc.heap j gj lK nj ej fj hj
  refine ⟨h1, ?_⟩
  cases hm : μ j with
  | none => rw [hm] at h2; exact h2
  | some p =>
   obtain ⟨b', jM⟩ := p
   rw [hm] at h2
   obtain ⟨o, q1, q2⟩ := h2
   exact ⟨o, (ha.blocks b' (hc.ok.lt b' (.inl ⟨_, _, _, _, _, _, _, hj, hm⟩))).trans q1, q2.mono (fun i y pv v hi hy hr => hr.fr jk hc.ok (fun bu n' e' f' F' he b2 nv => ha.blocks b2 (hc.ok.lt b2 (.inr ⟨j, i, y, _, _, _, _, _, _, _, _, _, _, hj, hi, he ▸ hy, nv⟩))))⟩
 ·rcases hs with hs | rfl
  ·exact hc.ok.apart b' ho hs
  ·exact absurd (hc.ok.lt b' ho) atu
 ·rcases hs with hs | rfl
  ·exact art (hc.ok.slt b' hs) ha.size
  ·exact lp
theorem vZ (hT : cd P T) (hc : Core μ h S w) (ht : ∀ t, aZ μ h S w (env t) (a.tmps.getD t undef)) (s d : Nat) (x : Operand) (hp : pop P T (.convert s d x) env h K) : eG P ⟨dst, .convert s d x, ty, pos, after, guard⟩ a μ h S w K := by
 simp only [pop] at hp
 split at hp
 ·rename_i e sz KL z b hs hd hx
  split at hp
  ·rename_i he
   obtain ⟨f', oB, hK⟩ := hp
   have hv := bh ht x
   rw [hx] at hv
   have jx := Lib.run_convert_string_bytes (P := P) w s d e ⟨⟨b⟩⟩ (hT.str _ hs) (hT.slice _ _ _ _ _ hd).1 (hT.int _ _ he)
   have hag : bF w (Lib.bytesWorld w e ⟨⟨b⟩⟩) := by
    have := Lib.bytesWorld_below w e ⟨⟨b⟩⟩
    exact ⟨this.block, this.size, this.os, this.tape, this.output⟩
   obtain ⟨jk, mP⟩ := GR hc hag w.heap.size (aqQ _) (by rw [Lib.bytesWorld_size]; omega)
   refine eG.gC (val := .slice (some ⟨w.heap.size, 0, none⟩) b.length (grownCap w b.length 0 e)) (bY rfl ?_) hK ?_ mP jk
   ·rw [hv.j9]
    exact jx
   ·show aE _ _ (.er 1 b.length f') _
    refine .er 1 b.length f' w.heap.size 0 _ (fun i _ => .int .u8 (b.getD i 0).toNat) (.inr rfl) (fun i hi => by rw [oB i hi]; rfl) ?_ (fun i j pv hi hj => ?_) (fun i j pv hi hj => ?_)
    ·have := grownCap_ge w b.length 0 e; omega
    ·rw [oB i hi] at hj
     have mA : j = 0 := by
      have := (At.1 hj).1
      simpa using this
     subst mA
     have := Lib.bytesWorld_cell w e ⟨⟨b⟩⟩ i (by show i < b.length; exact hi)
     rw [show 0 + i * 1 + 0 = i by omega]
     exact this
    ·rw [oB i hi] at hj
     have mA : j = 0 := by
      have := (At.1 hj).1
      simpa using this
     subst mA
     simp at hj
     subst hj
     exact .int _ _
  ·exact asZ
 ·exact .mV hc (ky hT hc.heap ht hp)
theorem xo (hT : cd P T) (hc : Core μ h S w) (t : Nat) (hp : pop P T (.makeMap t none) env h K) : eG P ⟨dst, .makeMap t none, ty, pos, after, guard⟩ a μ h S w K := by
 simp only [pop] at hp
 split at hp
 ·rename_i kt et zv eL
  obtain ⟨f', hK⟩ := hp
  obtain ⟨jk, mP⟩ := xW (w1 := w.alloc (.map #[] 0)) hc 2 0 t f' (some (w.heap.size, 0)) ⟨aqQ _, _, heap_alloc_new w _, rfl, fun i hi => absurd hi (arL _)⟩ (jP w _) (fun i hi => absurd hi (arL _)) (fun i j pv hi => absurd hi (arL _))
  refine eG.gC (val := .map (some w.heap.size)) (bY rfl rfl) hK ?_ mP jk
  show eu _ _ _ _ _
  unfold eu
  rw [aro (aqQ _), arT]
  exact ⟨⟨_, rfl⟩, w.heap.size, 0, bg _ _ _, ⟨_, _, heap_alloc_new w _⟩, rfl⟩
 ·exact asZ
theorem sg : ∀ (z xs ys : List PV) (b : Bool), xR z xs ys = some b → xs.all oX = true ∧ xs.all jO = true
 | z, xs, ys, b, hk => by
  unfold xR at hk
  split at hk
  ·exact ⟨rfl, rfl⟩
  ·obtain ⟨_, c, hc, _⟩ := bD hk
   obtain ⟨h1, h2⟩ := sg _ _ _ c hc
   simp [oX, jO, h1, h2]
  ·obtain ⟨_, c, hc, _⟩ := bD hk
   obtain ⟨h1, h2⟩ := sg _ _ _ c hc
   simp [oX, jO, h1, h2]
  ·obtain ⟨_, c, hc, _⟩ := bD hk
   obtain ⟨h1, h2⟩ := sg _ _ _ c hc
   simp [oX, jO, h1, h2]
  ·cases hk
theorem MM {ti : TI} {kv kp : PV} {q : Bool} (h0 : kl ti kv kp = some q) : ir kv = true ∧ storable kv = true := by
 unfold kl at h0
 split at h0
 ·exact ⟨rfl, rfl⟩
 ·exact ⟨rfl, rfl⟩
 ·split at h0
  ·exact sg _ _ _ _ h0
  ·cases h0
 ·cases h0
theorem sh {pv : PV} {v : Value} (hs : oX pv = true) (hj : jO pv = true) (hv : bn μ h S w pv v) : nZ pv v := by
 cases pv with
 | int k n => have hv : aE S w (.int k n) v := hv; cases hv; rfl
 | bool b => have hv : aE S w (.bool b) v := hv; cases hv; rfl
 | str s => have hv : aE S w (.str s) v := hv; cases hv; rfl
 | fP => cases hj
 | _ => cases hs
theorem EF {pv : PV} {v : Value} (hs : ir pv = true) (hj : storable pv = true) (hv : aZ μ h S w pv v) : mD pv v := by
 cases pv with
 | agg cs =>
  obtain ⟨vs, rfl, h1, h2⟩ := (show gn μ h S w (.agg cs) v from hv)
  refine ⟨vs, rfl, h1, fun j pv Eg => ?_⟩
  obtain ⟨u, q1, q2⟩ := h2 j pv Eg
  have hm := ari Eg
  exact ⟨u, q1, sh (aqX.1 hs pv hm) (aqX.1 hj pv hm) q2⟩
 | int k n => exact sh (μ := μ) (h := h) (S := S) (w := w) (pv := .int k n) hs hj hv
 | bool b => exact sh (μ := μ) (h := h) (S := S) (w := w) (pv := .bool b) hs hj hv
 | str s => exact sh (μ := μ) (h := h) (S := S) (w := w) (pv := .str s) hs hj hv
 | fP => cases hj
 | _ => cases hs
theorem zL {Dn new : Value} {w' : World} (h1 : Instr.sameBits 10000 Dn new = true) : (Instr.keyThatStays Dn new).run P w' = .ok new w' := by
 simp [Instr.keyThatStays, h1]
theorem GS {w : World} {b : Nat} {o o' : Obj} (hb : w.heap[b]? = some o) : ({ w with heap := w.heap.setIfInBounds b o' } : World).heap[b]? = some o' := by
 have := (aqU.1 hb).1
 simp [this]
theorem Dp {w : World} {b b' : Nat} {o' : Obj} (hb : b' ≠ b) : ({ w with heap := w.heap.setIfInBounds b o' } : World).heap[b']? = w.heap[b']? := by
 simp [Array.getElem?_setIfInBounds, asb hb]
theorem uy (hT : cd P T) (hc : Core μ h S w) (ht : ∀ t, aZ μ h S w (env t) (a.tmps.getD t undef)) (t : Nat) (m k x : Operand) (hp : pop P T (.mapUpdate t m k x) env h K) :
  eG P ⟨dst, .mapUpdate t m k x, ty, pos, after, guard⟩ a μ h S w K := by
 have hm := bh ht m
 have hk := bh ht k
 have hx := bh ht x
 simp only [pop] at hp
 split at hp
 ·rename_i kt et zv id eL hem
  rw [hem] at hm
  split at hp
  ·rename_i g sz n e f xS
   replace hp := aR (bs (bs hp))
   obtain ⟨mh, n', f', hup, hK⟩ := hp
   simp only [As] at mh
   obtain ⟨⟨⟨hkk, T0⟩, aqv⟩, aqw⟩ := mh
   obtain rfl := (No aqw)
   obtain ⟨hu, inf, z, jT, hz, fv, T1, qW⟩ := hT.map _ _ _ _ eL
   have hh := dK xS
   obtain ⟨bl, base, es, c, dW, ex, hb, hn, CN⟩ := vt hc.heap hh hm.zc
   obtain ⟨q0, h0⟩ := Option.isSome_iff_exists.1 hkk
   obtain ⟨d, s, hd, Zx, KR⟩ := Eh hT hk h0
   obtain ⟨wJ, aqx⟩ := MM h0
   have hkr := EF wJ aqx hk
   have hvr := EF T0 aqv hx
   have rR : ∀ m, m ≤ n → Bq (T.get kt) f m (ev env k) → ∀ j, j < m → ∀ y : MapEntry, es.toList[j]? = some y → oW P kt d s (a.eval k) y.key false := fun m hmn hM j hj y hy => by
    obtain ⟨kp, vp, h1, h2⟩ := hM j hj
    obtain ⟨kp', vp', en, h3, _, _, h4, h5, _⟩ := CN j atu
    rw [h1] at h3
    injection h3 with e1 e2
    subst e1
    have : y = en := by rw [arp] at hy; exact arH (hy.symm.trans h4)
    subst this
    exact KR kp y.key false h5 h2
   have main : ∀ (ML : Array MapEntry) (c1 : Nat), (Instr.mapUpdate t (.map (some bl)) (a.eval k) (a.eval x)).run P w = .ok () { w with heap := w.heap.setIfInBounds bl (.map ML c1) } →
     (ML.size = n' ∧ ∀ i, i < n' → ∃ (kp vp : PV) (en : MapEntry), f' i = [kp, vp] ∧ ir kp = true ∧ ir vp = true ∧ ML[i]? = some en ∧ mD kp en.key ∧ mD vp en.val) →
     eG P ⟨dst, .mapUpdate t m k x, ty, pos, after, guard⟩ a μ h S w K := by
    intro ML c1 jx hr
    obtain ⟨jk, mP⟩ := MK (w1 := { w with heap := w.heap.setIfInBounds bl (.map ML c1) }) hc id g 2 n n' e f f' hh bl base es c dW hb ML c1 (GS hb) (fun b' kr => Dp kr) atw rfl rfl rfl
     (fun i hi => by obtain ⟨kp, vp, en, h1, _⟩ := hr.2 i hi; rw [h1]; rfl) hr
    refine eG.Ek ?_ hK mP jk
    have e1 : (execOp a.eval ⟨dst, .mapUpdate t m k x, ty, pos, after, guard⟩) = (do Instr.mapUpdate t (a.eval m) (a.eval k) (a.eval x); pure .skip : Sem Next) := rfl
    rw [e1, ex]
    simp only [Sem.run_bind, jx, Result.andThen, Sem.run_pure]
   rcases hup with ⟨i0, r, ⟨hi0, hM, kp0, O1, hq0⟩, hn1, EG, MN⟩ | ⟨hM, hn1, EG, MN⟩
   ·obtain ⟨kp', vp', en, h3, h8, h6, h4, h5, h7⟩ := CN i0 hi0
    rw [O1] at h3
    injection h3 with e1 e2
    injection e2 with e2 _
    subst e1 e2
    have vG := vx (P := P) (w' := w) hd es.toList i0 en (rR i0 atu hM) (by rw [arp]; exact h4) (KR kp0 en.key true h5 hq0)
    have am5 := zL (P := P) (w' := w) (MJ hk h5 hq0)
    refine main (es.modify i0 fun e => { e with key := a.eval k, val := a.eval x }) c ?_ ⟨by simp [hn, hn1], fun i hi => ?_⟩
    ·simp [Instr.mapUpdate, run_underlying hu, run_getObj_map w bl es c hb, Zx, vG, h4, am5, MapKept.run_setObj_map _ hb]
    ·by_cases G7 : i = i0
     ·subst G7
      refine ⟨_, _, { en with key := a.eval k, val := a.eval x }, EG, wJ, T0, ?_, hkr, hvr⟩
      rw [arV, if_pos rfl, h4]
      rfl
     ·obtain ⟨kp1, vp1, en1, g1, g2, g3, g4, g5, g6⟩ := CN i atu
      refine ⟨kp1, vp1, en1, by rw [MN i atu G7, g1], g2, g3, ?_, g5, g6⟩
      rw [arV, if_neg (asb G7), g4]
   ·have vG := rN (P := P) (w' := w) hd es.toList (fun j y hy => rR n (aqQ _) hM j (by
      have := (At.1 hy).1
      rw [← hn]; simpa using this) y hy)
    refine main (es.push { key := a.eval k, val := a.eval x, born := c }) (c + 1) ?_ ⟨by simp [hn, hn1], fun i hi => ?_⟩
    ·simp [Instr.mapUpdate, run_underlying hu, run_getObj_map w bl es c hb, Zx, vG, MapKept.run_setObj_map _ hb]
    ·by_cases G7 : i = n
     ·subst G7
      refine ⟨_, _, { key := a.eval k, val := a.eval x, born := c }, EG, wJ, T0, ?_, hkr, hvr⟩
      rw [← hn]
      simp
     ·obtain ⟨kp1, vp1, en1, g1, g2, g3, g4, g5, g6⟩ := CN i atu
      refine ⟨kp1, vp1, en1, by rw [MN i atu, g1], g2, g3, ?_, g5, g6⟩
      rw [Array.getElem?_push, if_neg atu, g4]
  ·exact asZ
 ·exact asZ
theorem zM (hT : cd P T) (hc : Core μ h S w) (ht : ∀ t, aZ μ h S w (env t) (a.tmps.getD t undef)) (bo : BinOp) (t t' : TypeId) (x y : Operand) (hp : pop P T (.binOp bo t x y t') env h K) :
  eG P ⟨dst, .binOp bo t x y t', ty, pos, after, guard⟩ a μ h S w K := by
 simp only [pop] at hp
 split at hp
 ·rename_i e sz KL z bu n f eL hx hy
  obtain ⟨h1, h2⟩ := hp
  have rx := bh ht x
  have ry := bh ht y
  rw [hx] at rx
  rw [hy] at ry
  have rx : aE S w (.er bu n f) (a.eval x) := rx
  have ry : aE S w .bf (a.eval y) := ry
  have ey : a.eval y = .slice none 0 0 := by
   generalize a.eval y = v at ry
   cases ry
   rfl
  obtain ⟨ad, c, ex, hn⟩ : ∃ ad c, a.eval x = .slice ad n c ∧ (ad = none → n = 0) := by
   generalize a.eval x = v at rx
   cases rx with
   | lV _ _ ad c => exact ⟨ad, c, rfl, fun _ => rfl⟩
   | er _ _ _ b off c vf _ _ _ _ _ => exact ⟨_, c, rfl, fun h0 => by cases h0⟩
  obtain ⟨hu, _⟩ := hT.slice _ _ _ _ _ eL
  have hg : eqGuard .eql t x y (a.eval x) (a.eval y) = pure () := by rw [ex]; apply eqGuard_at_slice
  have hK : K (.bool ad.isNone) h := by
   cases ad with
   | none => exact h1 (hn rfl)
   | some _ => exact h2
  refine .mV hc (.mk (v := .bool ad.isNone) hK (aE.bool _) fun w' _ => tL (Ee hg ?_))
  rw [ex, ey]
  first | exact Lib.run_eql_slice_nil _ _ _ _ _ _ _ _ hu | exact run_eql_slice_nil _ _ _ _ _ _ hu
 ·exact .mV hc (ky hT hc.heap ht hp)
theorem zN {i j : Nat} (h : Nat.blt i j = false) : j ≤ i := by
 rcases arP i j with hl | hl
 ·have : Nat.blt i j = true := by simpa using hl
  rw [this] at h; cases h
 ·exact hl
theorem x9 {s x : Operand} {t tx : TypeId} {sv xv v' : Value} {w' : World} (hs : a.eval s = sv) (hx : a.eval x = xv) (hr : (Builtin.copy_ #[t, tx] ty #[sv, xv]).run P w = .ok v' w') :
  (execOp a.eval ⟨dst, .call ⟨.builtin .copy, #[s, x], #[t, tx]⟩, ty, pos, after, guard⟩).run P w = .ok (.value v') w' := by
 simp only [execOp, resolve, invoke, builtin, Sem.run_bind, Sem.run_pure, Result.andThen_ok, asy, adr, aqT, hs, hx, hr]
theorem BP (t tx ty e : TypeId) (i : TypeInfo) (ht : P.underlying t = some (.slice e)) (hi : P.info? e = some i)
  (sa : Option Addr) (lq tb : Nat) (xv : Value) (m : Nat) (news : Array Value) (w' : World) (hlen : (Builtin.lenOf xv).run P w = .ok m w) (hfc : (Builtin.firstCells i.size m xv).run P w = .ok news w) (hle : m ≤ lq)
  (qW : match sa with | some a => (storeCells a news.toList).run P w = .ok () w' | none => w' = w) :
  (Builtin.copy_ #[t, tx] ty #[.slice sa lq tb, xv]).run P w = .ok (.int .i64 m) w' := by
 have hm : Nat.min m lq = m := Nat.min_eq_left hle
 cases sa with
 | none =>
  have qW : w' = w := qW
  subst qW
  simp [Builtin.copy_, run_underlying ht, sizeOf, typeInfo, hi, hlen, hm, hfc, goInt]
 | some a =>
  have qW : (storeCells a news.toList).run P w = .ok () w' := qW
  simp [Builtin.copy_, run_underlying ht, sizeOf, typeInfo, hi, hlen, hm, hfc, qW, goInt]
theorem MO (hT : cd P T) (hc : Core μ h S w) (t tx e sz bytes : Nat) (zero : List PV) (eL : T.get t = .slice e sz bytes zero)
  (s x : Operand) (id g off len n : Nat) (f : Nat → List PV) (hh : h[id]? = some (ak.row g sz n e f)) (hs : aZ μ h S w (.own id g off len) (a.eval s)) (m : Nat) (q : Nat → List PV) (vX : Src P μ h S w (a.eval x) sz m q) (hqo : ∀ (i j : Nat) (pv : PV), i < m → (q i)[j]? = some pv → eA pv = false)
  (hb : m ≤ len) (hK : ∃ h2, cM (h.set id (.row g sz n e (Ql f off m q))) h2 ∧ K (.int .i64 m) h2) :
  eG P ⟨dst, .call ⟨.builtin .copy, #[s, x], #[t, tx]⟩, ty, pos, after, guard⟩ a μ h S w K := by
 obtain ⟨hu, fv, inf, zv, jT, lW, T2, hz, ND, NF, KQ⟩ := hT.slice _ _ _ _ _ eL
 subst lW T2
 have hid : id < h.length := (At.1 hh).1
 obtain ⟨nr, news, q1, q2, q3, q4⟩ := vX
 have sH := hs.nJ
 unfold aX at sH
 rw [hh] at sH
 obtain ⟨⟨sa, sl, ou, GQ⟩, _, sH⟩ := sH
 obtain ⟨hle, sH⟩ := sH rfl
 obtain ⟨Zc, uw, o1, o2, o3, o4⟩ := tc (P := P) hc id g off len inf.size n e f hh _ hs fv
 have KP : sl = len := by
  obtain ⟨e1, _⟩ := o4 w (bF.refl w)
  rw [GQ] at e1
  simp [Builtin.lenOf] at e1
  exact e1
 subst KP
 obtain ⟨hl, aI⟩ := hc.heap id g _ n e f hh
 obtain ⟨r1, r2⟩ := q4 w (bF.refl w)
 refine eG.rows ?_
 rcases arQ m with h0 | h0
 ·subst h0
  have hn : news = #[] := arY (by simpa using q1)
  subst hn
  have hr := BP (P := P) (w := w) t tx ty e inf hu jT sa sl ou (a.eval x) 0 #[] w r1 r2 (asn _) (by cases sa <;> rfl)
  obtain ⟨h2, he, hK⟩ := hK
  refine eG.gC (h' := h) (μ' := μ) (S' := S) (x9 GQ rfl hr) ⟨h2, ?_, hK⟩ (.int _ _) hc Fr.refl
  have e0 : Ql f off 0 q = f := by
   funext i
   unfold Ql
   cases w9 : Nat.blt i off
   ·rfl
   ·rfl
  rw [e0] at he
  have es : h.set id (ak.row g inf.size n e f) = h := by
   refine List.ext_getElem? fun j => ?_
   rw [asw]
   by_cases hj : id = j
   ·subst hj; rw [if_pos rfl, if_pos hid, hh]
   ·rw [if_neg hj]
  rwa [es] at he
 ·cases dW : μ id with
  | none =>
   rw [dW] at sH
   rw [GQ] at sH
   injection sH with e1 e2 e3
   omega
  | some p =>
   obtain ⟨b, base⟩ := p
   rw [dW] at sH aI
   obtain ⟨ad, cap, hv, Oq, rP, dS⟩ := sH
   have Nt : ∀ b base, μ id = some (b, base) → ¬ mw w b := fun b' jM Qm => by
    rw [dW] at Qm
    injection Qm with Qm
    injection Qm with h1 h2
    subst h1
    exact dS.qw
   rw [GQ] at hv
   injection hv with e1 e2 e3
   subst e1 e3
   obtain ⟨cur, jv, mO, iY⟩ := bx.cells dS aI
   have MI : base + (off + ou) * inf.size ≤ cur.size := by
    obtain ⟨CO, e', z', p1, p2⟩ := dS
    rw [jv] at p1
    injection p1 with p1
    injection p1 with p1 _ _
    subst p1
    exact p2
   rw [ars] at MI
   have rP := rP atu
   subst rP
   have hmul : m * inf.size ≤ ou * inf.size := arj _ atu
   have qW := run_storeCells_at P b (base + off * inf.size) e news.toList 0 cur w jv aty q3
   rw [arS] at qW
   generalize hc1 : (cur.toList.take (base + off * inf.size) ++ news.toList ++ cur.toList.drop (base + off * inf.size + news.toList.length)).toArray = jZ at qW
   have c1 : jZ.size = cur.size := by subst hc1; simp; omega
   have c3 : ∀ k : Nat, jZ[k]? = if base + off * inf.size ≤ k ∧ k < base + off * inf.size + m * inf.size then news[k - (base + off * inf.size)]? else cur[k]? := fun k => by
    subst hc1
    have hsp := qE cur.toList news.toList (base + off * inf.size) k aty
    rw [asz, hsp]
    simp only [arp, arN, q1]
   have hr := BP (P := P) (w := w) t tx ty e inf hu jT (some ⟨b, base + off * inf.size, none⟩) sl ou (a.eval x) m news (w.setRow b jZ) r1 r2 hb qW
   have U0 : ∀ i, i < n → (Ql f off m q i).length = inf.size := fun i hi => by
    unfold Ql
    cases lp : Nat.blt i off
    ·cases nv : Nat.blt i (off + m)
     ·exact hl i hi
     ·have MP := zN lp
      have MQ : i < off + m := by simpa using nv
      exact nr _ atu
    ·exact hl i hi
   have lL := mN (w1 := w.setRow b jZ) hc id g g inf.size n n e f (Ql f off m q) hh b base jZ (aqQ _) (fun _ => ⟨dW, rfl⟩)
    (.inr ⟨base, cur, dW, jv, c1.symm⟩) (setRow_heap w b cur _ e _ jv) (by rw [c1]; exact mO) (fun b' _ nq => setRow_other w b b' _ nq) atw rfl rfl rfl U0 Nt
    (fun i j pv hi hj => by
     have AY : j < inf.size := by rw [← U0 i hi]; exact (At.1 hj).1
     rw [c3]
     have e1 : i * inf.size + inf.size = (i + 1) * inf.size := by rw [ars, Nat.one_mul]
     unfold Ql at hj
     cases lp : Nat.blt i off
     ·rw [lp] at hj
      have MP : off ≤ i := zN lp
      have e2 : off * inf.size ≤ i * inf.size := arj _ MP
      cases nv : Nat.blt i (off + m)
      ·rw [nv] at hj
       simp only [cond_false] at hj
       have MQ : off + m ≤ i := zN nv
       have e3 : (off + m) * inf.size ≤ i * inf.size := arj _ MQ
       rw [ars] at e3
       rw [if_neg atu]
       exact iY i j pv hi hj
      ·rw [nv] at hj
       simp only [cond_false, cond_true] at hj
       have MQ : i < off + m := by simpa using nv
       have e3 : (i + 1) * inf.size ≤ (off + m) * inf.size := arj _ MQ
       have e5 : (off + m) * inf.size = off * inf.size + m * inf.size := ars _ _ _
       rw [if_pos atu]
       obtain ⟨u, p1, p2⟩ := q2 (i - off) j pv atu hj
       refine ⟨u, ?_, p2⟩
       rw [← p1]
       congr 1
       have e4 : i * inf.size = off * inf.size + (i - off) * inf.size := by rw [← ars]; congr 1; omega
       omega
     ·rw [lp] at hj
      simp only [cond_true] at hj
      have MP : i < off := by simpa using lp
      have e3 : (i + 1) * inf.size ≤ off * inf.size := arj _ MP
      rw [if_neg atu]
      exact iY i j pv hi hj) 0 (fun i j bu n' e' f' F' hi hj => by
    rw [are]
    refine ⟨hi, ?_⟩
    unfold Ql at hj
    cases lp : Nat.blt i off
    ·rw [lp] at hj
     have MP : off ≤ i := zN lp
     cases nv : Nat.blt i (off + m)
     ·rw [nv] at hj; exact hj
     ·rw [nv] at hj
      have MQ : i < off + m := by simpa using nv
      have := hqo (i - off) j _ atu hj
      cases this
    ·rw [lp] at hj; exact hj)
   obtain ⟨jk, mP⟩ := lL
   exact eG.gC (x9 GQ rfl hr) hK (.int _ _) mP jk
theorem Dq (hT : cd P T) (hc : Core μ h S w) (ht : ∀ t, aZ μ h S w (env t) (a.tmps.getD t undef)) (args : Array Operand) (ts : Array TypeId) (hp : pop P T (.call ⟨.builtin .copy, args, ts⟩) env h K) :
  eG P ⟨dst, .call ⟨.builtin .copy, args, ts⟩, ty, pos, after, guard⟩ a μ h S w K := by
 obtain ⟨args⟩ := args
 obtain ⟨ts⟩ := ts
 simp only [pop] at hp
 split at hp
 ·rename_i s x t tx
  have hs := bh ht s
  have hx := bh ht x
  have main : ∀ (e sz bytes : Nat) (zero : List PV), T.get t = .slice e sz bytes zero → wa e sz (ev env s) (ev env x) h K →
    eG P ⟨dst, .call ⟨.builtin .copy, #[s, x], #[t, tx]⟩, ty, pos, after, guard⟩ a μ h S w K := by
   intro e sz bytes zero eL hp
   have fv := (hT.slice _ _ _ _ _ eL).2.1
   unfold wa at hp
   split at hp
   ·rename_i id gen off len hes
    rw [hes] at hs
    split at hp
    ·rename_i g bu n e' f hg
     obtain ⟨rfl, hp⟩ := hp
     replace hp := aR hp
     obtain ⟨vz, hp⟩ := hp
     simp only [As] at vz
     obtain rfl := No vz.1
     obtain rfl := No vz.2
     obtain ⟨m, q, ⟨hb, f', oB, hK⟩, vX, hqo⟩ := tf (P := P) hc _ _ hx sz fv _ hp
     exact MO hT hc t tx e sz bytes zero eL s x id g off len n f (dK hg) hs m q vX hqo hb ⟨_, cM.set _ _ _ _ _ _ _ _ oB, hK⟩
    ·exact asZ
   ·exact asZ
  split at hp
  ·rename_i e sz bytes zero e' bu aaX am4 eL htx
   exact main e sz bytes zero eL hp
  ·rename_i e sz bytes zero eL htx
   exact main e sz bytes zero eL hp
  ·exact asZ
 ·exact asZ
theorem ye (hT : cd P T) (hc : Core μ h S w) (ht : ∀ t, aZ μ h S w (env t) (a.tmps.getD t undef)) {op : Op} (hp : pop P T op env h K) :
  eG P ⟨dst, op, ty, pos, after, guard⟩ a μ h S w K := by
 cases op with
 | store t ad x => exact Bt hT hc ht t ad x hp
 | makeSlice t l c => exact CP hT hc ht t l c hp
 | box t x => exact Fw hc ht t x hp
 | alloc t => exact Bv hT hc t hp
 | buildSlice t len parts => exact sZ hT hc ht t len parts hp
 | convert s d x => exact vZ hT hc ht s d x hp
 | binOp bo t x y t' => exact zM hT hc ht bo t t' x y hp
 | makeMap t r => cases r with
  | none => exact xo hT hc t hp
  | some r => exact hp.elim
 | mapUpdate t m k x => exact uy hT hc ht t m k x hp
 | call c =>
  obtain ⟨cal, args, ts⟩ := c
  cases cal with
  | value fo => exact Dl hc ht fo args ts hp
  | invoke r m => exact .mV hc (ky hT hc.heap ht hp)
  | builtin b => cases b with
   | append => exact zK hT hc ht args ts hp
   | copy => exact Dq hT hc ht args ts hp
   | _ => exact .mV hc (ky hT hc.heap ht hp)
 | _ => exact .mV hc (ky hT hc.heap ht hp)
end
section
variable {P : Program} {T : lu} {μ : Mu} {h η : List ak} {k : List Nat} {S : Nat → Prop} {w : World} {m : Nat}
theorem uq.get : ∀ (l r : List PV), uq h η k l r → r.length = l.length ∧ ∀ (j : Nat) (pv ef : PV), l[j]? = some pv → r[j]? = some ef → Fz h η k pv ef
 | [], [], _ => ⟨rfl, fun j pv ef hj => by simp at hj⟩
 | [], _ :: _, hh => hh.elim
 | _ :: _, [], hh => hh.elim
 | a :: l, b :: r, hh => by
  obtain ⟨h1, h2⟩ := hh
  obtain ⟨q1, q2⟩ := uq.get l r h2
  refine ⟨by simp [q1], fun j pv ef hj Eg => ?_⟩
  cases j with
  | zero =>
   simp at hj Eg
   subst hj Eg
   exact h1
  | succ j => exact q2 j pv ef atD (by simpa using Eg)
theorem kB : ∀ (l : List ak) (r : List Nat) (i : Nat), lN h η k m i l r → l.length = r.length ∧ ∀ (j : Nat) (o : ak), l[j]? = some o → ∃ id, r[j]? = some id ∧ vR h η k m o (i + j) id
 | [], [], i, _ => ⟨rfl, fun j o hj => by simp at hj⟩
 | [], _ :: _, _, hh => hh.elim
 | _ :: _, [], _, hh => hh.elim
 | o :: l, id :: r, i, hh => by
  obtain ⟨h1, h2⟩ := hh
  obtain ⟨q1, q2⟩ := kB l r (i + 1) h2
  refine ⟨by simp [q1], fun j o' hj => ?_⟩
  cases j with
  | zero =>
   simp at hj
   subst hj
   exact ⟨id, rfl, h1⟩
  | succ j =>
   simp at hj
   obtain ⟨id', r1, r2⟩ := q2 j o' hj
   exact ⟨id', by simpa using r1, by rw [show i + (j + 1) = i + 1 + j from by omega]; exact r2⟩
def jK (μ : Mu) (h : List ak) (k : List Nat) : Mu := fun id' => match k[id']? with | some id => (match h[id]? with | some _ => μ id | none => none) | none => none
theorem nQ {μ : Mu} {h : List ak} {k : List Nat} {id id' : Nat} {o : ak} (hk : k[id']? = some id) (ho : h[id]? = some o) : jK μ h k id' = μ id := by unfold jK; rw [hk]; simp only [ho]
theorem yf {μ : Mu} {h : List ak} {k : List Nat} {id id' : Nat} (hk : k[id']? = some id) (ho : h[id]? = none) : jK μ h k id' = none := by unfold jK; rw [hk]; simp only [ho]
def yg (μ : Mu) (h : List ak) (k : List Nat) (S : Nat → Prop) : Nat → Prop :=
 fun b => S b ∨ ∃ (id g sz n : Nat) (e : TypeId) (f : Nat → List PV) (base : Nat), id ∉ k ∧ h[id]? = some (ak.row g sz n e f) ∧ (μ id = some (b, base) ∨ ∃ i j, cA h id i j b)
theorem MR {S S' : Nat → Prop} {w : World} (hS : ∀ b, S b → S' b) {pv : PV} {v : Value} (h : jI S w pv v) : ∀ ef, vT pv ef → (∀ sz n e f F, pv = .fh sz n e f F → ∀ b, F b → S' b) → aE S' w ef v := by
 induction h with
 | nil sz e f F hF =>
  intro ef ho _
  cases ho
  exact .lV _ _ _ _
 | vi sz n e f F b off c a cur vf hF hb hlen hc ha dS aI ku rS xp BQ ih =>
  intro ef ho hk
  have hk := hk _ _ _ _ _ rfl
  cases ho with
  | mk _ _ _ _ f' _ hl hf hoo hp =>
   rcases arQ n with h0 | h0
   ·subst h0; exact .lV _ _ _ _
   ·obtain rfl := ha atu
    have get : ∀ (i j : Nat) (ef : PV), i < n → (f' i)[j]? = some ef → ∃ pv, (f i)[j]? = some pv := fun i j ef hi hj => by
     have B6 : j < (f i).length := by rw [← hl i hi]; exact (At.1 hj).1
     exact ⟨_, Of B6⟩
    refine .er sz n f' b off c vf (hk b hF) (fun i hi => by rw [hl i hi]; exact hlen i hi) hc (fun i j ef hi hj => ?_) (fun i j ef hi hj => ?_)
    ·obtain ⟨pv, mA⟩ := get i j ef hi hj
     rw [cell_of_row w b _ cur e (0, 0) hb, ← aI i j pv hi mA]
    ·obtain ⟨pv, mA⟩ := get i j ef hi hj
     cases hx : eA pv with
     | false =>
      rw [hf i j pv ef hi mA hj hx]
      rcases ku i j pv hi mA with q | ⟨_, _, _, _, _, q⟩
      ·exact q.mono (fun _ _ => rfl) hS
      ·rw [q] at hx; cases hx
     | true =>
      have hoo := hoo i j pv ef hi mA hj hx
      cases pv with
      | fh lk n2 e2 f2 F2 => exact ih i j lk n2 e2 f2 F2 hi mA ef hoo (fun _ _ _ _ _ he b' kr => by
        injection he with _ _ _ _ he
        subst he
        exact hk b' (xp i j _ _ _ _ _ hi mA b' kr).1)
      | _ => cases hx
theorem tj {μ' : Mu} {h' : List ak} {S' : Nat → Prop} {pv : PV} {v : Value} (hp : bZ pv = true) (hc : bn μ' h' S' w pv v) : aE S' w pv v := by
 cases pv <;> first | exact hc | cases hp
theorem pn (hc : Core μ h S w) (hh : lN h η k m 0 η k) {pv ef : PV} (hz : Fz h η k pv ef) :
  (∀ v, bn μ h S w pv v → bn (jK μ h k) η (yg μ h k S) w ef v) ∧ (∀ v, gn μ h S w pv v → gn (jK μ h k) η (yg μ h k S) w ef v) ∧ (∀ v, aZ μ h S w pv v → aZ (jK μ h k) η (yg μ h k S) w ef v) := by
 have up : ∀ pv v, aE S w pv v → aE (yg μ h k S) w pv v := fun pv v hp => aE.mono (fun _ _ => rfl) (fun b hb => .inl hb) hp
 have same : ∀ pv : PV, (∀ v, bn μ h S w pv v → aE S w pv v) → (∀ v, gn μ h S w pv v → bn μ h S w pv v) → (∀ v, aZ μ h S w pv v → gn μ h S w pv v) → ∀ ef : PV, (∀ v, aE S w pv v → aE (yg μ h k S) w ef v) →
   (∀ v, bn μ h S w pv v → bn (jK μ h k) η (yg μ h k S) w ef v) ∧ (∀ v, gn μ h S w pv v → bn (jK μ h k) η (yg μ h k S) w ef v) ∧ (∀ v, aZ μ h S w pv v → bn (jK μ h k) η (yg μ h k S) w ef v) :=
  fun pv h1 h2 h3 ef hp => ⟨fun v hv => bn.jf (hp v (h1 v hv)), fun v hv => bn.jf (hp v (h1 v (h2 v hv))), fun v hv => bn.jf (hp v (h1 v (h2 v (h3 v hv))))⟩
 induction hz with
 | int k' n => exact same (.int k' n) (fun _ h => h) (fun _ h => h) (fun _ h => h) _ (up _)
 | bool b => exact same (.bool b) (fun _ h => h) (fun _ h => h) (fun _ h => h) _ (up _)
 | str s => exact same (.str s) (fun _ h => h) (fun _ h => h) (fun _ h => h) _ (up _)
 | bf => exact same .bf (fun _ h => h) (fun _ h => h) (fun _ h => h) _ (up _)
 | dt => exact same .dt (fun _ h => h) (fun _ h => h) (fun _ h => h) _ (up _)
 | UW sz f => exact same .bf (fun _ h => h) (fun _ h => h) (fun _ h => h) (.er sz 0 f) (fun v hv => by cases hv; exact .lV _ _ _ _)
 | amS id id' g' bu e' f' hk ho hη =>
  have key : ∀ v, v = Value.slice none 0 0 → aX (jK μ h k) η w id' g' 0 0 v := fun v hv => by
   unfold aX
   rw [hη]
   refine ⟨⟨_, _, _, hv⟩, aqQ _, fun _ => ⟨aqQ _, ?_⟩⟩
   rw [yf hk ho]
   exact hv
  have inv : ∀ v, aE S w .bf v → v = Value.slice none 0 0 := fun v hv => by cases hv; rfl
  exact ⟨fun v hv => key v (inv v hv), fun v hv => key v (inv v hv), fun v hv => key v (inv v hv)⟩
 | fn f => exact same (.fn f) (fun _ h => h) (fun _ h => h) (fun _ h => h) _ (up _)
 | dX cs => exact same (.dX cs) (fun _ h => h) (fun _ h => h) (fun _ h => h) _ (up _)
 | er sz n f f' hf =>
  exact same (.er sz n f) (fun _ h => h) (fun _ h => h) (fun _ h => h) (.er sz n f') (fun v hv => by
   have hv := up _ _ hv
   cases hv with
   | lV _ _ a c => exact .lV _ _ _ _
   | er _ _ _ b off c vf h1 h2 h3 h4 h5 =>
    exact .er sz n f' b off c vf h1 (fun i hi => by rw [hf i hi]; exact h2 i hi) h3 (fun i j pv hi hj => h4 i j pv hi atM) (fun i j pv hi hj => h5 i j pv hi atM))
 | fP pv => exact ⟨fun v hv => hv.one, fun _ _ => trivial, fun _ _ => trivial⟩
 | fh sz n e f F => exact ⟨fun v hv => hv, fun v hv => hv, fun v hv => hv⟩
 | Fs sz e f => exact ⟨fun v hv => bn.one hv, fun v hv => bn.one (pv := .bf) (μ := μ) (h := h) hv, fun v hv => bn.one (pv := .bf) (μ := μ) (h := h) hv⟩
 | own id id' g g' sz bu n n' off len e e' f f' hk ho hη hn =>
  have key : ∀ v, aX μ h w id g off len v → aX (jK μ h k) η w id' g' off len v := fun v hv => by
   unfold aX at hv ⊢
   rw [ho] at hv
   rw [hη]
   obtain ⟨h1, _, lz⟩ := hv
   have NM := lz rfl
   clear lz
   obtain ⟨h2, h3⟩ := NM
   obtain ⟨_, bQ⟩ := kB η k 0 hh
   obtain ⟨Qn, r1, r2⟩ := bQ id' _ hη
   rw [hk] at r1
   injection r1 with r1
   subst r1
   unfold vR at r2
   rw [ho] at r2
   obtain ⟨_, rfl, _, _⟩ := r2
   refine ⟨h1, aqQ _, fun _ => ⟨hn, ?_⟩⟩
   have hm : jK μ h k id' = μ id := nQ hk ho
   rw [hm]
   exact h3
  exact ⟨key, key, key⟩
 | aL id id' g g' sz bu n n' i off e e' f f' hk ho hη hn =>
  have key : ∀ v, a7 μ h w id g i off v → a7 (jK μ h k) η w id' g' i off v := fun v hv => by
   unfold a7 at hv ⊢
   rw [ho] at hv
   rw [hη]
   obtain ⟨h1, _, lz⟩ := hv
   have NM := lz rfl
   clear lz
   obtain ⟨h2, h3⟩ := NM
   obtain ⟨_, bQ⟩ := kB η k 0 hh
   obtain ⟨Qn, r1, r2⟩ := bQ id' _ hη
   rw [hk] at r1
   injection r1 with r1
   subst r1
   unfold vR at r2
   rw [ho] at r2
   obtain ⟨_, rfl, _, rfl, _⟩ := r2
   refine ⟨h1, aqQ _, fun _ => ⟨hn, ?_⟩⟩
   have hm : jK μ h k id' = μ id := nQ hk ho
   rw [hm]
   exact h3
  exact ⟨key, key, key⟩
 | kZ f bq BR hl TZ =>
  have key : ∀ v, k8 μ h w f bq v → k8 (jK μ h k) η w f BR v := fun v hv => by
   obtain ⟨vs, h1, h2, h3⟩ := hv
   refine ⟨vs, h1, h2.trans hl.symm, fun j p' hj => ?_⟩
   have cD : j < bq.length := by rw [← hl]; exact (At.1 hj).1
   obtain ⟨hk, ⟨sz, n, e, g, ho⟩, bu, n', e', g', hη, hn⟩ := TZ j _ p' (Of cD) hj
   obtain ⟨u, q1, q2⟩ := h3 j _ (Of cD)
   refine ⟨u, q1, ?_⟩
   unfold a7 at q2 ⊢
   rw [ho] at q2
   rw [hη]
   obtain ⟨a1, _, a2⟩ := q2
   have a3 := a2 rfl
   clear a2
   obtain ⟨a4, a5⟩ := a3
   obtain ⟨_, bQ⟩ := kB η k 0 hh
   obtain ⟨Qn, r1, r2⟩ := bQ p'.1 _ hη
   rw [hk] at r1
   injection r1 with r1
   subst r1
   unfold vR at r2
   rw [ho] at r2
   obtain ⟨_, rfl, _, rfl, _⟩ := r2
   refine ⟨a1, aqQ _, fun _ => ⟨hn, ?_⟩⟩
   rw [nQ hk ho]
   exact a5
  exact ⟨key, key, key⟩
 | kR id id' g g' sz bu n n' e e' f f' hk ho hη =>
  have key : ∀ v, eu μ h w id v → eu (jK μ h k) η w id' v := fun v hv => by
   unfold eu at hv ⊢
   rw [ho] at hv
   rw [hη]
   obtain ⟨h1, b, base, q1, q2, q3⟩ := hv
   exact ⟨h1, b, base, (nQ hk ho).trans q1, q2, q3⟩
  exact ⟨key, key, key⟩
 | frz id g sz n off len e f f' hk ho hl hp hf ih =>
  have key : ∀ v, aX μ h w id g off len v → bn (jK μ h k) η (yg μ h k S) w (.er sz len f') v := fun v hv => by
   refine bn.jf ?_
   unfold aX at hv
   rw [ho] at hv
   obtain ⟨_, _, hv⟩ := hv
   obtain ⟨hle, hv⟩ := hv rfl
   obtain ⟨hlr, aI⟩ := hc.heap id g sz n e f ho
   cases dW : μ id with
   | none =>
    rw [dW] at hv aI
    have hn : n = 0 := aI
    have h0 : len = 0 := by omega
    subst h0
    have hv : v = .slice none 0 0 := hv
    subst hv
    exact .lV _ _ _ _
   | some p =>
    obtain ⟨b, base⟩ := p
    rw [dW] at hv aI
    obtain ⟨ad, cap, rfl, Oq, rP, CJ⟩ := hv
    obtain ⟨cur, jv, mO, iY⟩ := bx.cells CJ aI
    rcases arQ len with h0 | h0
    ·subst h0
     exact .lV _ _ _ _
    ·have rP := rP atu
     subst rP
     have hcl : ∀ (i j : Nat) (ef : PV), i < len → (f' i)[j]? = some ef → ∃ u, w.cell? ⟨b, base + off * sz + i * sz + j, none⟩ = some u ∧ aE (yg μ h k S) w ef u := fun i j ef hi hj => by
      have B6 : j < (f (off + i)).length := by rw [← hl i hi]; exact (At.1 hj).1
      have mA := Of B6
      obtain ⟨u, h1, h2⟩ := iY (off + i) j _ atu mA
      have h3 : aE (yg μ h k S) w ef u := by
       by_cases hof : vT (f (off + i))[j] ef
       ·generalize hpv : (f (off + i))[j] = pv at hof h2 mA
        cases hof with
        | mk lk n2 e2 f2 f2' F2 a1 a2 a3 a4 =>
         exact MR (fun b hb => .inl hb) (show jI S w (.fh lk n2 e2 f2 F2) u from h2) _ (.mk lk n2 e2 f2 f2' F2 a1 a2 a3 a4) (fun _ _ _ _ _ he b' kr => by
          injection he with _ _ _ _ he
          subst he
          exact .inr ⟨id, g, sz, n, e, f, base, hk, ho, .inr ⟨off + i, j, _, _, _, _, _, _, _, _, _, _, ho, by omega, mA, kr⟩⟩)
       ·exact tj (hp i j ef hi hj) ((ih i j _ ef hi mA hj hof).1 u h2.c)
      refine ⟨u, ?_, h3⟩
      rw [cell_of_row w b _ cur e (0, 0) jv, ← h1]
      congr 1
      rw [ars]
      omega
     refine .er sz len f' b (base + off * sz) cap (fun i j => (w.cell? ⟨b, base + off * sz + i * sz + j, none⟩).getD undef) (.inr ⟨id, g, sz, n, e, f, base, hk, ho, .inl dW⟩) (fun i hi => by rw [hl i hi]; exact hlr _ atu) Oq (fun i j pv hi hj => ?_) (fun i j pv hi hj => ?_)
     ·obtain ⟨u, h1, _⟩ := hcl i j pv hi hj
      rw [h1]; rfl
     ·obtain ⟨u, h1, h2⟩ := hcl i j pv hi hj
      simp only [h1, asG]
      exact h2
  exact ⟨key, key, key⟩
 | agg cs sO hl TZ ih =>
  have key : ∀ v, gn μ h S w (.agg cs) v → gn (jK μ h k) η (yg μ h k S) w (.agg sO) v := fun v hv => by
   obtain ⟨vs, h1, h2, h3⟩ := hv
   refine ⟨vs, h1, h2.trans hl.symm, fun j ef hj => ?_⟩
   have B6 : j < cs.length := by rw [← hl]; exact (At.1 hj).1
   have mA := Of B6
   obtain ⟨u, q1, q2⟩ := h3 j _ mA
   exact ⟨u, q1, (ih j _ ef mA hj).1 u q2⟩
  exact ⟨fun _ hv => (show False from hv).elim, key, key⟩
 | aV cs sO hl TZ ih =>
  refine ⟨fun _ hv => (show False from hv).elim, fun _ hv => (show False from hv).elim, fun v hv => ?_⟩
  obtain ⟨vs, h1, h2, h3⟩ := hv
  refine ⟨vs, h1, h2.trans hl.symm, fun j ef hj => ?_⟩
  have B6 : j < cs.length := by rw [← hl]; exact (At.1 hj).1
  have mA := Of B6
  obtain ⟨u, q1, q2⟩ := h3 j _ mA
  exact ⟨u, q1, (ih j _ ef mA hj).2.1 u q2⟩
end
section
variable {P : Program} {T : lu} {μ : Mu} {h η : List ak} {k : List Nat} {S : Nat → Prop} {w : World} {m : Nat}
theorem MS {a a' : PV} (hz : Fz h η k a a') (ha : oX a = true) : oX a' = true ∧ ∀ v, nZ a v → nZ a' v := by
 cases hz with
 | int k' n => exact ⟨rfl, fun _ h => h⟩
 | bool b => exact ⟨rfl, fun _ h => h⟩
 | str s => exact ⟨rfl, fun _ h => h⟩
 | fP _ => exact ⟨rfl, fun v h => by
   cases a <;> first | (cases ha; done) | (have h : v = _ := h; subst h; rfl) | exact h⟩
 | _ => cases ha
theorem EH {a a' : PV} (hz : Fz h η k a a') (ha : ir a = true) : ir a' = true ∧ ∀ v, mD a v → mD a' v := by
 cases hz with
 | int k' n => exact ⟨rfl, fun _ h => h⟩
 | bool b => exact ⟨rfl, fun _ h => h⟩
 | str s => exact ⟨rfl, fun _ h => h⟩
 | fP _ => exact ⟨rfl, fun _ _ => trivial⟩
 | agg cs sO hl hc =>
  have el : ∀ j ef, sO[j]? = some ef → ∃ pv, cs[j]? = some pv ∧ oX ef = true ∧ ∀ v, nZ pv v → nZ ef v := fun j ef hj => by
   have cD : j < cs.length := by rw [← hl]; exact (At.1 hj).1
   have h1 := Of cD
   have h2 := MS (hc j _ _ h1 hj) (aqX.1 ha _ (arc cD))
   exact ⟨_, h1, h2⟩
  refine ⟨aqX.2 (fun x hx => ?_), fun v hv => ?_⟩
  ·obtain ⟨j, hj, rfl⟩ := arX.1 hx
   obtain ⟨_, _, h2, _⟩ := el j _ (Of hj)
   exact h2
  ·obtain ⟨vs, q1, q2, q3⟩ := hv
   refine ⟨vs, q1, q2.trans hl.symm, fun j ef hj => ?_⟩
   obtain ⟨pv, e1, _, e2⟩ := el j ef hj
   obtain ⟨u, hu, hr⟩ := q3 j pv e1
   exact ⟨u, hu, e2 u hr⟩
 | _ => cases ha
theorem wc : ∀ {l : List Nat} {x i : Nat}, l[i]? = some x → GU l x = true
 | [], x, i, h => by simp at h
 | a :: r, x, 0, h => by
  simp at h; subst h
  unfold GU
  rw [show Nat.beq a a = true from arZ a]
 | a :: r, x, i + 1, h => by
  unfold GU
  cases Nat.beq a x
  ·exact wc atK
  ·rfl
theorem pH : ∀ {η : List ak} {k : List Nat} {i id g sz n : Nat} {e : TypeId} {f : Nat → List PV}, η[i]? = some (ak.row g sz n e f) → k[i]? = some id → ∃ j : Nat, (kW η k)[j]? = some id
 | [], _, i, _, _, _, _, _, _, h, _ => by simp at h
 | _ :: _, [], i, _, _, _, _, _, _, _, h => by simp at h
 | .row _ _ _ _ _ :: r, a :: is, 0, id, _, _, _, _, _, _, h => by simp at h; subst h; exact ⟨0, rfl⟩
 | .dead :: r, a :: is, 0, id, _, _, _, _, _, h, _ => by simp at h
 | .row _ _ _ _ _ :: r, a :: is, i + 1, id, _, _, _, _, _, h1, h2 => by
  obtain ⟨j, hj⟩ := pH (i := i) atP atO
  exact ⟨j + 1, by simpa [kW] using hj⟩
 | .dead :: r, a :: is, i + 1, id, _, _, _, _, _, h1, h2 => by
  obtain ⟨j, hj⟩ := pH (i := i) atP atO
  exact ⟨j, by simpa [kW] using hj⟩
theorem pI : ∀ {η : List ak} {k : List Nat} {i j id g sz n g' bu n' : Nat} {e e' : TypeId} {f f' : Nat → List PV}, la (kW η k) = true → η[i]? = some (ak.row g sz n e f) → k[i]? = some id → η[j]? = some (ak.row g' bu n' e' f') → k[j]? = some id → i = j
 | [], _, i, _, _, _, _, _, _, _, _, _, _, _, _, _, h, _, _, _ => by simp at h
 | _ :: _, [], i, _, _, _, _, _, _, _, _, _, _, _, _, _, _, h, _, _ => by simp at h
 | .row _ _ _ _ _ :: r, a :: is, 0, 0, _, _, _, _, _, _, _, _, _, _, _, _, _, _, _, _ => rfl
 | .row _ _ _ _ _ :: r, a :: is, 0, j + 1, id, _, _, _, _, _, _, _, _, _, _, hn, _, h2, h3, h4 => by
  simp at h2; subst h2
  obtain ⟨q, hq⟩ := pH (η := r) (k := is) (i := j) (by simpa using h3) (by simpa using h4)
  unfold kW la at hn
  rw [wc hq] at hn; cases hn
 | .row _ _ _ _ _ :: r, a :: is, i + 1, 0, id, _, _, _, _, _, _, _, _, _, _, hn, h1, h2, _, h4 => by
  simp at h4; subst h4
  obtain ⟨q, hq⟩ := pH (η := r) (k := is) (i := i) atP atO
  unfold kW la at hn
  rw [wc hq] at hn; cases hn
 | .row _ _ _ _ _ :: r, a :: is, i + 1, j + 1, id, _, _, _, _, _, _, _, _, _, _, hn, h1, h2, h3, h4 => by
  unfold kW la at hn
  cases hm : GU (kW r is) a with
  | true => rw [hm] at hn; cases hn
  | false =>
   rw [hm] at hn
   rw [pI (η := r) (k := is) (i := i) (j := j) hn atP atO (by simpa using h3) (by simpa using h4)]
 | .dead :: r, a :: is, 0, _, _, _, _, _, _, _, _, _, _, _, _, _, h, _, _, _ => by simp at h
 | .dead :: r, a :: is, _ + 1, 0, _, _, _, _, _, _, _, _, _, _, _, _, _, _, h, _ => by simp at h
 | .dead :: r, a :: is, i + 1, j + 1, id, _, _, _, _, _, _, _, _, _, _, hn, h1, h2, h3, h4 => by
  rw [pI (η := r) (k := is) (i := i) (j := j) hn atP atO (by simpa using h3) (by simpa using h4)]
theorem sj (hc : Core μ h S w) (hh : lN h η k m 0 η k) (hk : la (kW η k) = true) : Core (jK μ h k) η (yg μ h k S) w ∧ (∀ b, bH (jK μ h k) η b → bH μ h b) ∧ ∀ b, yg μ h k S b → S b ∨ bH μ h b := by
 obtain ⟨hlen, bQ⟩ := kB η k 0 hh
 have back : ∀ (id' g' bu n' : Nat) (e' : TypeId) (f' : Nat → List PV), η[id']? = some (ak.row g' bu n' e' f') → (n' = 0 ∧ jK μ h k id' = none) ∨ ∃ (id g : Nat) (f : Nat → List PV), k[id']? = some id ∧ (∃ n, h[id]? = some (ak.row g bu n e' f) ∧ n' ≤ n ∧ (n' = n ∨ bu ≠ 2)) ∧ jK μ h k id' = μ id ∧
   ∀ i, i < n' → (f' i).length = (f i).length ∧ ∀ (j : Nat) (pv ef : PV), (f i)[j]? = some pv → (f' i)[j]? = some ef → Fz h η k pv ef := fun id' g' bu n' e' f' hη => by
  obtain ⟨id, r1, r2⟩ := bQ id' _ hη
  unfold vR at r2
  cases ho : h[id]? with
  | none => rw [ho] at r2; exact .inl ⟨r2.2, yf r1 ho⟩
  | some o =>
   cases o with
   | dead => rw [ho] at r2; exact r2.elim
   | row g sz n e f =>
    rw [ho] at r2
    obtain ⟨_, rfl, r4, rfl, r3⟩ := r2
    refine .inr ⟨id, g, f, r1, ⟨n, ho, ?_⟩, nQ r1 ho, fun i hi => uq.get _ _ (r3 i hi)⟩
    rcases r4 with rfl | ⟨_, r5, r6⟩
    ·exact ⟨aqQ _, .inl rfl⟩
    ·exact ⟨r6, .inr r5⟩
 have ux : ∀ b, xc (jK μ h k) η b → ∃ id, id ∈ k ∧ ∃ g sz n e f base, h[id]? = some (ak.row g sz n e f) ∧ μ id = some (b, base) := fun b hb => by
  obtain ⟨id', g', bu, n', e', f', base, hη, hm⟩ := hb
  rcases back id' g' bu n' e' f' hη with ⟨_, q3⟩ | ⟨id, g, f, q1, ⟨n, q2, _⟩, q3, _⟩
  ·rw [q3] at hm; cases hm
  ·rw [q3] at hm
   exact ⟨id, ari q1, g, bu, n, e', f, base, q2, hm⟩
 have am6 : ∀ {pv : PV} {sz n : Nat} {e : TypeId} {f : Nat → List PV} {F : Nat → Prop}, Fz h η k pv (.fh sz n e f F) → pv = .fh sz n e f F ∨ (pv = .bf ∧ n = 0 ∧ ∀ b, ¬ F b) := fun hz => by
  cases hz with
  | fh => exact .inl rfl
  | Fs => exact .inr ⟨rfl, rfl, fun _ h => h⟩
 have lY : ∀ id' i j b, cA η id' i j b → ∃ id, k[id']? = some id ∧ cA h id i j b ∧ ∃ g sz n e f, η[id']? = some (ak.row g sz n e f) := fun id' i j b ⟨g', bu, n', e', f', lk, n2, e2, f2, F2, q1, q2, q3, q4⟩ => by
  rcases back id' g' bu n' e' f' q1 with ⟨r1, _⟩ | ⟨id, g, f, r1, ⟨n, r2, hle, _⟩, r3, r4⟩
  ·omega
  ·obtain ⟨s1, s2⟩ := r4 i q2
   have B6 : j < (f i).length := by rw [← s1]; exact (At.1 q3).1
   have mA := Of B6
   rcases am6 (s2 j _ _ mA q3) with this | ⟨_, _, this⟩
   ·exact ⟨id, r1, ⟨g, bu, n, e', f, _, _, _, _, _, r2, by omega, by rw [mA, this], q4⟩, _, _, _, _, _, q1⟩
   ·exact absurd q4 (this b)
 have kh : ∀ b, bH (jK μ h k) η b → bH μ h b := fun b hb => by
  rcases hb with hb | ⟨x, y, z, hb⟩
  ·obtain ⟨id, _, g, sz, n, e, f, base, q2, hm⟩ := ux b hb
   exact .inl ⟨id, g, sz, n, e, f, base, q2, hm⟩
  ·obtain ⟨id, _, q, _⟩ := lY x y z b hb
   exact att
 have hs : ∀ b, yg μ h k S b → S b ∨ bH μ h b := fun b hb => by
  rcases hb with hb | ⟨id, g, sz, n, e, f, base, _, h1, h2 | ⟨i, j, h2⟩⟩
  ·exact .inl hb
  ·exact .inr (.inl ⟨id, g, sz, n, e, f, base, h1, h2⟩)
  ·exact .inr (.inr ⟨_, _, _, h2⟩)
 refine ⟨⟨fun id' g' bu n' e' f' hη => ?_, ?_⟩, kh, hs⟩
 ·rcases back id' g' bu n' e' f' hη with ⟨rfl, q3⟩ | ⟨id, g, f, q1, ⟨n, q2, hle, hor⟩, q3, q4⟩
  ·exact ⟨fun i hi => absurd hi (arL _), by rw [q3]⟩
  obtain ⟨r1, r2⟩ := hc.heap id g bu n e' f q2
  refine ⟨fun i hi => (q4 i hi).1.trans (r1 i (art hi hle)), ?_⟩
  rw [q3]
  cases hm : μ id with
  | none => rw [hm] at r2; have r2 : n = 0 := r2; show n' = 0; omega
  | some p =>
   obtain ⟨b, base⟩ := p
   rw [hm] at r2
   obtain ⟨o, s1, s2⟩ := r2
   refine ⟨o, s1, ?_⟩
   cases o with
   | cells cur e2 z =>
    obtain ⟨x1, x2, x3, s3⟩ := s2
    refine ⟨x1, x2, arO (Nat.add_le_add_left (arj _ hle) _) x3, fun i j ef hi hj => ?_⟩
    have B6 : j < (f i).length := by rw [← (q4 i hi).1]; exact (At.1 hj).1
    have mA := Of B6
    obtain ⟨u, t1, t2⟩ := s3 i j _ (art hi hle) mA
    have hz := (q4 i hi).2 j _ ef mA hj
    refine ⟨u, t1, ?_⟩
    cases hx : eA ef with
    | false => exact bn.k ((pn hc hh hz).1 u t2.c) hx
    | true =>
     cases ef with
     | fh lk n2 e2 f2 F2 =>
      rcases am6 hz with hq | ⟨hq, rfl, hF⟩
      ·rw [hq] at t2
       exact jI.mono (fun _ _ => rfl) (fun b hb => .inl hb) (show jI S w (.fh lk n2 e2 f2 F2) u from t2) (fun _ _ _ _ _ _ _ _ => rfl)
      ·rw [hq] at t2
       have t2 : aE S w .bf u := t2
       cases t2
       exact jI.nil _ _ _ _ hF
     | _ => cases hx
   | map es c =>
    obtain ⟨x1, s3⟩ := s2
    have hn : n' = n := by
     rcases hor with h0 | h0
     ·exact h0
     ·rcases arQ n with h1 | h1
      ·omega
      ·obtain ⟨kp, vp, en, y1, _⟩ := s3 0 h1
       have := r1 0 h1
       rw [y1] at this
       exact absurd this.symm h0
    subst hn
    refine ⟨x1, fun i hi => ?_⟩
    obtain ⟨kp, vp, en, y1, y2, y3, y4, y5, y6⟩ := s3 i hi
    obtain ⟨z1, z2⟩ := q4 i hi
    rw [y1] at z1 z2
    generalize oB : f' i = l' at z1 z2 ⊢
    rcases l' with _ | ⟨kp', _ | ⟨vp', _ | ⟨c3, l3⟩⟩⟩ <;> simp at z1
    have w1 := EH (z2 0 kp kp' rfl rfl) y2
    have w2 := EH (z2 1 vp vp' rfl rfl) y3
    exact ⟨kp', vp', en, rfl, w1.1, w2.1, y4, w1.2 _ y5, w2.2 _ y6⟩
   | _ => exact s2.elim
 ·refine ⟨fun b hb hsb => ?_, fun b hb => hc.ok.lt b (kh b hb), fun b hb => ?_, ?_, hc.ok.known.On (fun _ _ => rfl) (fun _ hb => .inl hb), fun b hb x y z hx => ?_, fun b i x y j x' y' hx qC => ?_⟩
  rotate_right 2
  ·obtain ⟨id, _, g, sz, n, e, f, base, q2, hm⟩ := ux b hb
   obtain ⟨Qn, _, q, _⟩ := lY x y z b hx
   exact hc.ok.hv b ⟨id, g, sz, n, e, f, base, q2, hm⟩ _ _ _ q
  ·obtain ⟨id1, k1, q1, _, _, _, _, _, r1⟩ := lY i x y b hx
   obtain ⟨Qn, k2, q2, _, _, _, _, _, r2⟩ := lY j x' y' b qC
   obtain ⟨e1, e2, e3⟩ := hc.ok.hh b _ _ _ _ _ _ q1 q2
   subst e1
   exact ⟨pI hk r1 k1 r2 k2, e2, e3⟩
  ·rcases hsb with hsb | ⟨Qn, g2, lk, n2, e2, f2, am7, hnk, h1, h2⟩
   ·exact hc.ok.apart b (kh b hb) hsb
   ·rcases hb with hb | ⟨x, y, z, hb⟩
    ·obtain ⟨id, hik, g, sz, n, e, f, base, q2, hm⟩ := ux b hb
     rcases h2 with h2 | ⟨i, j, h2⟩
     ·have := hc.ok.inj id Qn _ _ _ _ _ _ _ _ _ _ _ _ _ q2 h1 hm h2
      subst this
      exact hnk hik
     ·exact hc.ok.hv b ⟨id, g, sz, n, e, f, base, q2, hm⟩ _ _ _ h2
    ·obtain ⟨id, hik, q, _⟩ := lY x y z b hb
     rcases h2 with h2 | ⟨i, j, h2⟩
     ·exact hc.ok.hv b ⟨Qn, g2, lk, n2, e2, f2, am7, h1, h2⟩ _ _ _ q
     ·obtain ⟨e1, _, _⟩ := hc.ok.hh b _ _ _ _ _ _ q h2
      subst e1
      exact hnk (ari hik)
  ·rcases hs b hb with h1 | h1
   ·exact hc.ok.slt b h1
   ·exact hc.ok.lt b h1
  ·intro i j gi NH ni ei fi gj lK nj ej fj b o o' hi hj lX ll
   rcases back i gi NH ni ei fi hi with ⟨_, q3⟩ | ⟨id1, g1, f1, q1, ⟨nn1, q2, _⟩, q3, _⟩
   ·rw [q3] at lX; cases lX
   rcases back j gj lK nj ej fj hj with ⟨_, r3⟩ | ⟨Qn, g2, f2, r1, ⟨nn2, r2, _⟩, r3, _⟩
   ·rw [r3] at ll; cases ll
   rw [q3] at lX
   rw [r3] at ll
   have := hc.ok.inj id1 Qn _ _ _ _ _ _ _ _ _ _ _ _ _ q2 r2 lX ll
   subst this
   exact pI hk hi q1 hj r1
structure Start where
 μ : Mu
 h : List ak
 S : Nat → Prop
 w : World
 nt : Nat
theorem U2 {C : Start} (hc : Core μ h S w) (hf : Fr C.μ C.h C.S C.w μ h S w) (hh : lN h η k C.h.length 0 η k) (hk : la (kW η k) = true) (hm : C.h.length ≤ k.length) :
  Fr C.μ C.h C.S C.w (jK μ h k) η (yg μ h k S) w := by
 obtain ⟨hlen, bQ⟩ := kB η k 0 hh
 obtain ⟨_, kh, hs⟩ := sj hc hh hk
 have idx : ∀ id, id < C.h.length → ∃ o id', η[id]? = some o ∧ k[id]? = some id' ∧ vR h η k C.h.length o id id' := fun id hid => by
  have cD : id < η.length := by omega
  obtain ⟨id', r1, r2⟩ := bQ id _ (Of cD)
  rw [are] at r2
  exact ⟨_, id', Of cD, r1, r2⟩
 refine ⟨by omega, hf.blocks, fun b hb => .inl (hf.sub b hb), fun b hb => ?_, fun b hb => hf.own b (kh b hb), hf.size, hf.os, hf.tape, hf.output, fun id g0 Qo n0 e0 f0 h0 => ?_, fun id h0 => ?_, hf.bq, fun id g0 Qo n0 e0 f0 b base h0 hm0 k4 => ?_, hf.p8⟩
 rotate_right
 ·have hid : id < C.h.length := (At.1 h0).1
  obtain ⟨o, id', q1, q2, q3⟩ := idx id hid
  obtain ⟨r1, r2⟩ := hf.maps id g0 Qo n0 e0 f0 b base h0 hm0 k4
  refine ⟨r1, ?_⟩
  rw [q1]
  unfold vR at q3
  cases o with
  | dead => exact .inl rfl
  | row g' bu n' e' f' =>
   cases ho : h[id']? with
   | none => rw [ho] at q3; exact absurd q3.1 atu
   | some o2 =>
    cases o2 with
    | dead => rw [ho] at q3; exact q3.elim
    | row g sz n e f =>
     rw [ho] at q3
     obtain ⟨s1, rfl, s2, rfl, _⟩ := q3
     obtain ⟨rfl, rfl⟩ := s1 hid
     obtain rfl := s2.resolve_right (fun hx => absurd hx.1 atu)
     rw [ho] at r2
     rcases r2 with r2 | ⟨_, r3⟩
     ·cases r2
     ·exact .inr ⟨⟨_, _, _, _, _, rfl⟩, (nQ q2 ho).trans r3⟩
 ·rcases hs b hb with h1 | h1
  ·exact hf.new b h1
  ·rcases hf.own b h1 with h2 | h2
   ·exact .inr (.inl h2)
   ·exact .inr (.inr h2)
 ·have hid : id < C.h.length := (At.1 h0).1
  obtain ⟨o, id', q1, q2, q3⟩ := idx id hid
  have hg := hf.vN id g0 Qo n0 e0 f0 h0
  rw [q1]
  unfold vR at q3
  cases o with
  | dead => trivial
  | row g' bu n' e' f' =>
   cases ho : h[id']? with
   | none => rw [ho] at q3; exact absurd q3.1 atu
   | some o2 =>
    cases o2 with
    | dead => rw [ho] at q3; exact q3.elim
    | row g sz n e f =>
     rw [ho] at q3
     obtain ⟨r1, rfl, r2, rfl, _⟩ := q3
     obtain ⟨rfl, rfl⟩ := r1 hid
     obtain rfl := r2.resolve_right (fun hx => absurd hx.1 atu)
     rw [ho] at hg
     refine ⟨hg.1, fun he => ?_⟩
     obtain ⟨s1, s2, s3, s4⟩ := hg.2 he
     exact ⟨by rw [nQ q2 ho]; exact s1, s2, s3, s4⟩
 ·have hid : id < C.h.length := (At.1 h0).1
  obtain ⟨o, id', q1, q2, q3⟩ := idx id hid
  have hd := hf.dead id h0
  rw [q1]
  unfold vR at q3
  cases o with
  | dead => rfl
  | row g' bu n' e' f' =>
   cases ho : h[id']? with
   | none => rw [ho] at q3; exact absurd q3.1 atu
   | some o2 =>
    cases o2 with
    | dead => rw [ho] at q3; exact q3.elim
    | row g sz n e f =>
     rw [ho] at q3
     obtain ⟨rfl, rfl⟩ := q3.1 hid
     rw [ho] at hd
     cases hd
structure kk (C : Start) (μ : Mu) (h : List ak) (S : Nat → Prop) (env : Env) (a : Act) (w : World) : Prop where
 core : Core μ h S w
 fr : Fr C.μ C.h C.S C.w μ h S w
 tmps : ∀ t, aZ μ h S w (env t) (a.tmps.getD t undef)
 size : a.tmps.size = C.nt
 far : ∀ t, C.nt ≤ t → env t = .fP
 defers : a.defers = []
variable {C : Start} {env : Env} {a : Act}
theorem we (env : Env) (t : Nat) (v : PV) : lZ env t v t = v := by simp [lZ]
theorem zO (env : Env) {t j : Nat} (v : PV) (hj : j ≠ t) : lZ env t v j = env j := by
 unfold lZ
 have : Nat.beq j t = false := by
  cases hb : Nat.beq j t with
  | true => exact (hj (No hb)).elim
  | false => rfl
 rw [this]; rfl
def kn (nt : Nat) (o : Oper) : Bool := match o.dst with | some t => Nat.blt t nt | none => true
theorem kk.put (hs : kk C μ h S env a w) {μ' : Mu} {h' : List ak} {S' : Nat → Prop} {w' : World} (hf : Fr μ h S w μ' h' S' w') (hc : Core μ' h' S' w') {dst : Option Nat} {v : PV} {val : Value} (hv : aZ μ' h' S' w' v val)
  (hd : ∀ t, dst = some t → t < C.nt) : kk C μ' h' S' (cp env dst v) (a.put dst val) w' := by
 refine ⟨hc, hs.fr.trans hf, fun t => ?_, ?_, fun t ht => ?_, ?_⟩
 ·cases dst with
  | none => exact (hs.tmps t).fr hf hs.core.ok
  | some d =>
   have MT := hd d rfl
   by_cases htd : t = d
   ·subst htd
    show aZ μ' h' S' w' (lZ env t v t) _
    rw [we]
    have : ((a.put (some t) val).tmps).getD t undef = val := by
     have cD : t < a.tmps.size := by rw [hs.size]; exact MT
     simp [Act.put, cD]
    rw [this]; exact hv
   ·show aZ μ' h' S' w' (lZ env d v t) _
    rw [zO env v htd]
    have : ((a.put (some d) val).tmps).getD t undef = a.tmps.getD t undef := by
     simp [Act.put, ase (asb htd)]
    rw [this]; exact (hs.tmps t).fr hf hs.core.ok
 ·cases dst with
  | none => exact hs.size
  | some d => simp [Act.put, hs.size]
 ·cases dst with
  | none => exact hs.far t ht
  | some d =>
   have MT := hd d rfl
   show lZ env d v t = _
   rw [zO env v atu]
   exact hs.far t ht
 ·cases dst with
  | none => exact hs.defers
  | some d => exact hs.defers
theorem kk.wg (hs : kk C μ h S env a w) {t : Nat} {b : Bool} (he : env t = .bool b) : kk C μ h S (lZ env t (.bool b)) a w := by
 have : lZ env t (.bool b) = env := by
  funext j
  by_cases hj : j = t
  ·subst hj; rw [we, he]
  ·rw [zO env _ hj]
 rw [this]; exact hs
def tl (C : Start) (Q : XQ) : Exit → Act → World → Prop := fun e a w => ∃ μ h S env, kk C μ h S env a w ∧ Q e env h
theorem qK (hs : kk C μ h S env a w) {ops : Array Oper} {j t : Nat} {b : Bool} (hj : (ops.toList[j]?).bind (·.dst) = some t) (he : env t = .bool b) : yielded ops a.tmps j = some b := by
 have hv := hs.tmps t
 rw [he] at hv
 have hv := hv.j3
 have cD : t < a.tmps.size := by
  rcases arP t a.tmps.size with h1 | h1
  ·exact h1
  ·rw [hs.far t (by rw [← hs.size]; exact h1)] at he; cases he
 unfold yielded
 rw [arp] at hj
 rw [hj]
 simp only [asH]
 have : a.tmps[t]? = some (.bool b) := by
  rw [arn cD]
  simp [cD] at hv
  rw [hv]
 rw [this]
theorem qL : aZ μ h S w (.aV []) undef := ⟨#[], rfl, rfl, fun j pv hj => by simp at hj⟩
theorem nR (hs : kk C μ h S env a w) {ops : Array Oper} {j t : Nat} (hj : (ops.toList[j]?).bind (·.dst) = some t) (he : env t = .aV []) : yielded ops a.tmps j = none := by
 have hv := hs.tmps t
 rw [he] at hv
 obtain ⟨vs, hv, _⟩ := hv
 unfold yielded
 rw [arp] at hj
 rw [hj]
 simp only [asH]
 rcases arP t a.tmps.size with h1 | h1
 ·have : a.tmps[t]? = some (.tuple vs) := by
   rw [arn h1]
   simp [h1] at hv
   rw [hv]
  rw [this]
 ·rw [Array.getElem?_eq_none h1]
theorem qM {K : Env → List ak → Prop} (all : List Oper) (o : Oper) (rest : List Oper) (env : Env) (h : List ak) {j : Nat} {want : Bool} (hg : o.guard = some (j, want)) :
  mH P T all K (o :: rest) env h = (match (all[j]?).bind (·.dst) with
     | some t => match env t with
      | .bool b => ez b
        (match (generalizing := false) want with
         | true => pop P T o.op (lZ env t (.bool true)) h (fun v h' => mH P T all K rest (cp (lZ env t (.bool true)) o.dst v) h')
         | false => mH P T all K rest (cp (lZ env t (.bool true)) o.dst (.aV [])) h)
        (match (generalizing := false) want with
         | true => mH P T all K rest (cp (lZ env t (.bool false)) o.dst (.aV [])) h
         | false => pop P T o.op (lZ env t (.bool false)) h (fun v h' => mH P T all K rest (cp (lZ env t (.bool false)) o.dst v) h'))
      | .aV [] => mH P T all K rest (cp env o.dst (.aV [])) h
      | _ => False
     | none => False) := by
 obtain ⟨dst, op, ty, pos, after, guard⟩ := o
 have hg : guard = some (j, want) := hg
 rw [hg]
 rfl
theorem qN (hT : cd P T) (ops : Array Oper) {K : Env → List ak → Prop} {Q : Exit → Act → World → Prop} (hK : ∀ env h a w μ S, K env h → kk C μ h S env a w → Q .normal a w) :
  ∀ (l : List Oper) (env : Env) (h : List ak) (a : Act) (w : World) (μ : Mu) (S : Nat → Prop), mH P T ops.toList K l env h → (∀ o ∈ l, kn C.nt o = true) → kk C μ h S env a w → wpList P ops Q l a w
 | [], env, h, a, w, μ, S, hp, _, hs => hK env h a w μ S hp hs
 | o :: rest, env, h, a, w, μ, S, hp, hd, hs => by
  have Qp : ∀ t, o.dst = some t → t < C.nt := fun t ht => by
   have := hd o atw
   unfold kn at this
   rw [ht] at this
   simpa using this
  have hdr : ∀ o ∈ rest, kn C.nt o = true := fun o ho => hd o (by simp [ho])
  have run : ∀ env', kk C μ h S env' a w → pop P T o.op env' h (fun v h' => mH P T ops.toList K rest (cp env' o.dst v) h') → o.wp P a w (wpList P ops Q rest) Q := fun env' iv uf => by
   obtain ⟨dst, op, ty, pos, after, guard⟩ := o
   refine ye (env := env') hT iv.core iv.tmps uf _ _ fun v val h' μ' S' w' Qq hv hc hf => ?_
   exact qN hT ops hK rest _ h' _ w' μ' S' Qq hdr (iv.put hf hc hv Qp)
  have skip : ∀ env', kk C μ h S env' a w → mH P T ops.toList K rest (cp env' o.dst (.aV [])) h → wpList P ops Q rest (a.put o.dst undef) w := fun env' iv uf =>
   qN hT ops hK rest _ h _ w μ S uf hdr (iv.put Fr.refl iv.core qL Qp)
  unfold wpList
  cases hg : o.guard with
  | none =>
   have hp : pop P T o.op env h (fun v h' => mH P T ops.toList K rest (cp env o.dst v) h') := by
    exact asU
   rw [if_pos (by simp [Region.wanted, hg])]
   exact .inl (run env hs hp)
  | some p =>
   obtain ⟨j, want⟩ := p
   rw [qM ops.toList o rest env h hg] at hp
   split at hp
   ·rename_i t hj
    split at hp
    ·rename_i b he
     have hy := qK hs hj he
     obtain ⟨ht, hf⟩ := iX hp
     have iv := hs.wg he
     cases b with
     | true =>
      have hp := ht rfl
      cases want with
      | true => rw [if_pos atB]; exact .inl (run _ iv hp)
      | false => rw [if_neg atB]; exact skip _ iv hp
     | false =>
      have hp := hf rfl
      cases want with
      | true => rw [if_neg atB]; exact skip _ iv hp
      | false => rw [if_pos atB]; exact .inl (run _ iv hp)
    ·rename_i he
     rw [if_neg atQ]
     exact skip _ hs hp
    ·exact asZ
   ·exact asZ
end
section
variable {P : Program} {T : lu} {μ : Mu} {h h1 : List ak} {S : Nat → Prop} {w : World}
theorem EI (hc : Core μ h S w) (hx : Dr h h1) : ∃ μ', Fr μ h S w μ' h1 S w ∧ Core μ' h1 S w := by
 obtain ⟨id, g, sz, n, e, f, i, j, bu, n', e', f', F, f1, hh, hi, hj, EG, MN, rfl⟩ := hx
 have hid : id < h.length := (At.1 hh).1
 obtain ⟨hl, aI⟩ := hc.heap id g sz n e f hh
 have AY : j < sz := by rw [← hl i hi]; exact (At.1 hj).1
 have sG : ∃ b0 tR BS v, μ id = some (b0, tR) ∧ w.heap[b0]? = some (.cells BS e (0, 0)) ∧ tR + n * sz ≤ BS.size ∧ BS[tR + i * sz + j]? = some v ∧ jI S w (.fh bu n' e' f' F) v ∧
   ∀ (i j : Nat) (pv : PV), i < n → (f i)[j]? = some pv → ∃ v : Value, BS[tR + i * sz + j]? = some v ∧ k6 μ h S w pv v := by
  cases dW : μ id with
  | none => rw [dW] at aI; have aI : n = 0 := aI; omega
  | some p =>
   obtain ⟨b0, tR⟩ := p
   rw [dW] at aI
   obtain ⟨o, q1, q2⟩ := aI
   cases o with
   | cells BS e0 z =>
    obtain ⟨rfl, rfl, q3, q4⟩ := q2
    obtain ⟨v, r1, r2⟩ := q4 i j _ hi hj
    exact ⟨b0, tR, BS, v, rfl, q1, q3, r1, r2, q4⟩
   | map es c =>
    obtain ⟨kp, vp, en, y1, y2, y3, _⟩ := q2.2 i hi
    rw [y1] at hj
    match j, hj with
    | 0, hj => simp at hj; rw [hj] at y2; cases y2
    | 1, hj => simp at hj; rw [hj] at y3; cases y3
    | y + 2, hj => simp at hj
   | _ => exact q2.elim
 obtain ⟨b0, tR, BS, v, dW, Y4, mO, hv0, htv, iY⟩ := sG
 have MU : ∀ b, F b → cA h id i j b := fun b hb => ⟨_, _, _, _, _, _, _, _, _, _, hh, hi, hj, hb⟩
 obtain ⟨p, hp⟩ : ∃ p : Option (Nat × Nat), match p with
   | none => v = .slice none 0 0 ∧ n' = 0
   | some (b, off) => F b ∧ ∃ (c : Nat) (a : Addr) (cur : Array Value), w.heap[b]? = some (.cells cur e' (0, 0)) ∧ v = .slice (some a) n' c ∧ n' ≤ c ∧ (0 < c → a = ⟨b, off, none⟩) ∧ off + c * bu ≤ cur.size ∧ (∀ i, i < n' → (f' i).length = bu) ∧
     (∀ (i j : Nat) (pv : PV), i < n' → (f' i)[j]? = some pv → ∃ u, cur[off + i * bu + j]? = some u ∧ (aE S w pv u ∨ ∃ s2 n2 e2 f2 F2, pv = .fh s2 n2 e2 f2 F2 ∧ jI S w (.fh s2 n2 e2 f2 F2) u)) ∧
     (∀ (i j lk n2 : Nat) (e2 : TypeId) (f2 : Nat → List PV) (F2 : Nat → Prop), i < n' → (f' i)[j]? = some (.fh lk n2 e2 f2 F2) → ∀ b', F2 b' → F b' ∧ b' ≠ b) ∧
     (∀ (i j lk n2 : Nat) (e2 : TypeId) (f2 : Nat → List PV) (F2 : Nat → Prop) (i' j' sz3 n3 : Nat) (e3 : TypeId) (f3 : Nat → List PV) (F3 : Nat → Prop), i < n' → (f' i)[j]? = some (.fh lk n2 e2 f2 F2) → i' < n' → (f' i')[j']? = some (.fh sz3 n3 e3 f3 F3) → ∀ b', F2 b' → F3 b' → i = i' ∧ j = j') := by
  cases htv with
  | nil _ _ _ _ hF => exact ⟨none, rfl, rfl⟩
  | vi _ _ _ _ _ b off c a cur vf hF hb hlen TZ ha dS hcel ku rS xp BQ =>
   refine ⟨some (b, off), hF, c, a, cur, hb, rfl, TZ, ha, dS, hlen, fun i j pv hi hj => ⟨_, hcel i j pv hi hj, ?_⟩, xp, BQ⟩
   rcases ku i j pv hi hj with q | ⟨s2, n2, e2, f2, F2, rfl⟩
   ·exact .inl q
   ·exact .inr ⟨s2, n2, e2, f2, F2, rfl, rS i j _ _ _ _ _ hi hj⟩
 have hpF : ∀ b off, p = some (b, off) → F b := fun b off hq => by subst hq; exact hp.1
 generalize Qr : h.set id (ak.row g sz n e f1) ++ [ak.row 0 bu n' e' f'] = h1
 have aqK : h1.length = h.length + 1 := by rw [← Qr]; simp
 have qO : h1[id]? = some (ak.row g sz n e f1) := by rw [← Qr, aru (by simpa using hid)]; simp [hid]
 have uE : h1[h.length]? = some (ak.row 0 bu n' e' f') := by rw [← Qr, aro atw]; simp
 have bS : ∀ k, k ≠ id → k < h.length → h1[k]? = h[k]? := fun k hk U3 => by rw [← Qr, aru (by simpa using U3), arG (asb hk)]
 have inv : ∀ k o, h1[k]? = some o → (k = id ∧ o = ak.row g sz n e f1) ∨ (k = h.length ∧ o = ak.row 0 bu n' e' f') ∨ (k ≠ id ∧ k < h.length ∧ h[k]? = some o) := fun k o hk => by
  by_cases h2 : k = id
  ·subst h2; rw [qO] at hk; injection hk with hk; exact .inl ⟨rfl, hk.symm⟩
  ·by_cases h3 : k = h.length
   ·subst h3; rw [uE] at hk; injection hk with hk; exact .inr (.inl ⟨rfl, hk.symm⟩)
   ·have h4 : k < h.length := by have := (At.1 hk).1; omega
    rw [bS k h2 h4] at hk
    exact .inr (.inr ⟨h2, h4, hk⟩)
 let μ1 : Mu := ld μ h.length p
 have wh : μ1 h.length = p := bg _ _ _
 have k9 : ∀ k, k < h.length → μ1 k = μ k := fun k hk => df μ _ atu
 have wi : ∀ x y pv, x < n → (f1 x)[y]? = some pv → ((x, y) = (i, j) ∧ pv = .own h.length 0 0 n') ∨ ((x, y) ≠ (i, j) ∧ (f x)[y]? = some pv) := fun x y pv hx hy => by
  by_cases hxi : x = i
  ·subst hxi
   rw [EG, asw] at hy
   by_cases hyj : j = y
   ·subst hyj
    rw [if_pos rfl, if_pos (by rw [hl x hx]; exact AY)] at hy
    injection hy with hy
    exact .inl ⟨rfl, hy.symm⟩
   ·rw [if_neg hyj] at hy
    exact .inr ⟨fun q => hyj (by injection q with _ q; exact q.symm), hy⟩
  ·rw [MN x hx hxi] at hy
   exact .inr ⟨fun q => hxi (by injection q), hy⟩
 have ew : ∀ k x y b, cA h1 k x y b → (k ≠ h.length ∧ ¬ (k = id ∧ x = i ∧ y = j) ∧ cA h k x y b) ∨ (k = h.length ∧ cA h id i j b ∧ ∃ lk n2 e2 f2 F2, x < n' ∧ (f' x)[y]? = some (.fh lk n2 e2 f2 F2) ∧ F2 b) := fun k x y b ⟨g2, s2, n2, e2, f2, s3, n3, e3, f3, F3, q1, q2, q3, q4⟩ => by
  rcases inv k _ q1 with ⟨rfl, ho⟩ | ⟨rfl, ho⟩ | ⟨h2, h3, h4⟩
  ·injection ho with a1 a2 a3 a4 a5
   subst a1 a2 a3 a4 a5
   rcases wi x y _ q2 q3 with ⟨_, hq⟩ | ⟨nq, hq⟩
   ·cases hq
   ·exact .inl ⟨by omega, fun ⟨_, b1, b2⟩ => nq (by rw [b1, b2]), _, _, _, _, _, _, _, _, _, _, hh, q2, hq, q4⟩
  ·injection ho with a1 a2 a3 a4 a5
   subst a1 a2 a3 a4 a5
   refine .inr ⟨rfl, MU b ?_, _, _, _, _, _, q2, q3, q4⟩
   cases p with
   | none => have := hp.2; omega
   | some pp =>
    obtain ⟨pb, aaY⟩ := pp
    obtain ⟨_, _, _, _, _, _, _, _, _, _, _, hs, _⟩ := hp
    exact (hs x y _ _ _ _ _ q2 q3 b q4).1
  ·exact .inl ⟨by omega, fun ⟨b1, _⟩ => h2 b1, _, _, _, _, _, _, _, _, _, _, h4, q2, q3, q4⟩
 have wj : ∀ b, xc μ1 h1 b → xc μ h b ∨ (∃ off, p = some (b, off)) := fun b ⟨k, g2, s2, n2, e2, f2, base, q1, q2⟩ => by
  rcases inv k _ q1 with ⟨rfl, ho⟩ | ⟨rfl, ho⟩ | ⟨h2, h3, h4⟩
  ·rw [k9 k hid] at q2
   exact .inl ⟨k, _, _, _, _, _, _, hh, q2⟩
  ·rw [wh] at q2
   exact .inr ⟨base, q2⟩
  ·rw [k9 k h3] at q2
   exact .inl ⟨k, _, _, _, _, _, _, h4, q2⟩
 have kh : ∀ b, bH μ1 h1 b → bH μ h b := fun b hb => by
  rcases hb with hb | ⟨k, x, y, hb⟩
  ·rcases wj b hb with q | ⟨off, q⟩
   ·exact .inl q
   ·exact .inr ⟨_, _, _, MU b (hpF b off q)⟩
  ·rcases ew k x y b hb with ⟨_, _, q⟩ | ⟨_, q, _⟩
   ·exact att
   ·exact att
 have jk : Fr μ h S w μ1 h1 S w := by
  refine ⟨by omega, fun _ _ _ => rfl, fun _ hb => hb, fun _ hb => .inl hb, fun b hb => .inl (kh b hb), aqQ _, rfl, rfl, rfl, fun k g2 s2 n2 e2 f2 hk => ?_, fun k hk => ?_, fun _ _ _ hc => hc, fun k g2 s2 n2 e2 f2 b base hk hm k4 => ⟨k4, .inr ⟨?_, ?_⟩⟩, fun _ _ _ _ _ k4 => k4⟩
  ·have U3 := (At.1 hk).1
   by_cases sW : k = id
   ·subst sW
    rw [hh] at hk
    injection hk with hk
    injection hk with a1 a2 a3 a4 a5
    subst a1 a2 a3 a4 a5
    rw [qO]
    exact ⟨aqQ _, fun _ => ⟨k9 _ hid, rfl, rfl, rfl⟩⟩
   ·rw [bS k sW U3, hk]
    exact ⟨aqQ _, fun _ => ⟨k9 k U3, rfl, rfl, rfl⟩⟩
  ·have U3 := (At.1 hk).1
   rw [bS k (by rintro rfl; rw [hh] at hk; cases hk) U3]; exact hk
  ·have U3 := (At.1 hk).1
   by_cases sW : k = id
   ·subst sW; exact ⟨_, _, _, _, _, qO⟩
   ·exact ⟨_, _, _, _, _, (bS k sW U3).trans hk⟩
  ·rw [k9 k (At.1 hk).1]; exact hm
 refine ⟨μ1, jk, ⟨fun k g2 s2 n2 e2 f2 hk => ?_, ⟨fun b hb => hc.ok.apart b (kh b hb), fun b hb => hc.ok.lt b (kh b hb), hc.ok.slt, ?_, hc.ok.known, fun b hb k x y hx => ?_, fun b k x y k' x' y' hx qC => ?_⟩⟩⟩
 ·rcases inv k _ hk with ⟨rfl, ho⟩ | ⟨rfl, ho⟩ | ⟨h2, h3, h4⟩
  ·injection ho with a1 a2 a3 a4 a5
   subst a1 a2 a3 a4 a5
   refine ⟨fun x hx => ?_, ?_⟩
   ·by_cases hxi : x = i
    ·subst hxi; rw [EG, asp]; exact hl x hx
    ·rw [MN x hx hxi]; exact hl x hx
   ·rw [k9 k hid, dW]
    refine ⟨_, Y4, rfl, rfl, mO, fun x y pv hx hy => ?_⟩
    rcases wi x y pv hx hy with ⟨hq, rfl⟩ | ⟨_, hq⟩
    ·injection hq with r1 r2
     subst r1 r2
     refine ⟨v, hv0, ?_⟩
     show aX μ1 h1 w h.length 0 0 n' v
     unfold aX
     rw [uE]
     cases p with
     | none =>
      obtain ⟨rfl, rfl⟩ := hp
      exact ⟨⟨_, _, _, rfl⟩, aqQ _, fun _ => ⟨aqQ _, by rw [wh]⟩⟩
     | some pp =>
      obtain ⟨pb, aaY⟩ := pp
      obtain ⟨_, c, a, cur, t1, rfl, t3, t4, t5, _⟩ := hp
      refine ⟨⟨_, _, _, rfl⟩, aqQ _, fun _ => ⟨by omega, ?_⟩⟩
      rw [wh]
      exact ⟨a, c, rfl, t3, fun h0 => by rw [t4 h0]; simp, cur, e', _, t1, by rw [are]; exact t5⟩
    ·obtain ⟨u, r1, r2⟩ := iY x y pv hx hq
     exact ⟨u, r1, r2.fr jk hc.ok (fun _ _ _ _ _ _ _ _ => rfl)⟩
  ·injection ho with a1 a2 a3 a4 a5
   subst a1 a2 a3 a4 a5
   rw [wh]
   cases p with
   | none => exact ⟨fun x hx => by have := hp.2; omega, hp.2⟩
   | some pp =>
    obtain ⟨pb, aaY⟩ := pp
    obtain ⟨_, c, a, cur, t1, _, t3, _, t5, t6, t7, _, _⟩ := hp
    refine ⟨t6, _, t1, rfl, rfl, arO (Nat.add_le_add_left (arj _ t3) _) t5, fun x y pv hx hy => ?_⟩
    obtain ⟨u, r1, r2⟩ := t7 x y pv hx hy
    refine ⟨u, r1, ?_⟩
    rcases r2 with r2 | ⟨_, _, _, _, _, rfl, r2⟩
    ·exact (bn.jf r2).k (aE.no r2)
    ·exact r2
  ·obtain ⟨q1, q2⟩ := hc.heap k _ _ _ _ _ h4
   refine ⟨q1, ?_⟩
   rw [k9 k h3]
   cases hm : μ k with
   | none => rw [hm] at q2; exact q2
   | some pp =>
    obtain ⟨b, base⟩ := pp
    rw [hm] at q2
    obtain ⟨o, r1, r2⟩ := q2
    exact ⟨o, r1, r2.mono (fun _ _ _ _ _ _ hr => hr.fr jk hc.ok (fun _ _ _ _ _ _ _ _ => rfl))⟩
 ·intro a b ga sa na ea fa gb sb nb eb fb vi o o' ha hb hma k4
  have Dn : ∀ k gk sk nk ek fk oo, h1[k]? = some (ak.row gk sk nk ek fk) → μ1 k = some (vi, oo) → (k = h.length ∧ F vi) ∨ (k < h.length ∧ ∃ gk sk nk ek fk, h[k]? = some (ak.row gk sk nk ek fk) ∧ μ k = some (vi, oo)) := fun k gk sk nk ek fk oo hk hm => by
   rcases inv k _ hk with ⟨rfl, ho⟩ | ⟨rfl, ho⟩ | ⟨h2, h3, h4⟩
   ·rw [k9 k hid] at hm; exact .inr ⟨hid, _, _, _, _, _, hh, hm⟩
   ·rw [wh] at hm; exact .inl ⟨rfl, hpF _ _ hm⟩
   ·rw [k9 k h3] at hm; exact .inr ⟨h3, _, _, _, _, _, h4, hm⟩
  rcases Dn a _ _ _ _ _ _ ha hma with ⟨rfl, q⟩ | ⟨q0, _, _, _, _, _, q1, q2⟩
  ·rcases Dn b _ _ _ _ _ _ hb k4 with ⟨rfl, _⟩ | ⟨r0, _, _, _, _, _, r1, r2⟩
   ·rfl
   ·exact absurd (MU vi q) (hc.ok.hv vi ⟨b, _, _, _, _, _, _, r1, r2⟩ _ _ _)
  ·rcases Dn b _ _ _ _ _ _ hb k4 with ⟨rfl, r⟩ | ⟨r0, _, _, _, _, _, r1, r2⟩
   ·exact absurd (MU vi r) (hc.ok.hv vi ⟨a, _, _, _, _, _, _, q1, q2⟩ _ _ _)
   ·exact hc.ok.inj a b _ _ _ _ _ _ _ _ _ _ _ _ _ q1 r1 q2 r2
 ·rcases wj b hb with q | ⟨off, q⟩
  ·rcases ew k x y b hx with ⟨_, _, r⟩ | ⟨_, r, _⟩
   ·exact hc.ok.hv b q _ _ _ r
   ·exact hc.ok.hv b q _ _ _ r
  ·rcases ew k x y b hx with ⟨_, nq, r⟩ | ⟨_, r, lk, n2, e2, f2, F2, r1, r2, r3⟩
   ·exact nq (hc.ok.hh b _ _ _ _ _ _ r (MU b (hpF b off q)))
   ·subst q
    obtain ⟨_, _, _, _, _, _, _, _, _, _, _, hs, _⟩ := hp
    exact (hs x y _ _ _ _ _ r1 r2 b r3).2 rfl
 ·rcases ew k x y b hx with ⟨k1, nq, r⟩ | ⟨rfl, r, lk, n2, e2, f2, F2, r1, r2, r3⟩
  ·rcases ew k' x' y' b qC with ⟨k2, hne', r'⟩ | ⟨rfl, r', _⟩
   ·exact hc.ok.hh b _ _ _ _ _ _ r r'
   ·exact absurd (hc.ok.hh b _ _ _ _ _ _ r r') nq
  ·rcases ew k' x' y' b qC with ⟨k2, hne', r'⟩ | ⟨rfl, r', sz3, n3, e3, f3, F3, t1, t2, t3⟩
   ·exact absurd (hc.ok.hh b _ _ _ _ _ _ r' r) hne'
   ·cases p with
    | none => have := hp.2; omega
    | some pp =>
     obtain ⟨pb, aaY⟩ := pp
     obtain ⟨_, _, _, _, _, _, _, _, _, _, _, _, hd⟩ := hp
     obtain ⟨e1, e2⟩ := hd x y _ _ _ _ _ x' y' _ _ _ _ _ r1 r2 t1 t2 b r3 t3
     exact ⟨rfl, e1, e2⟩
def FAb (μ : Mu) (h : List ak) (sub : Nat) (b : Nat) : Prop := (∃ g sz n e f base, h[sub]? = some (ak.row g sz n e f) ∧ μ sub = some (b, base)) ∨ ∃ x y, cA h sub x y b
theorem EJ (hc : Core μ h S w) {id i j sub : Nat} (hx : Ds h id i j sub (FAb μ h sub) h1) : Fr μ h S w μ h1 S w ∧ Core μ h1 S w := by
 obtain ⟨g, sz, n, e, f, g2, lk, n2, e2, f2, f1, hh, hs, nq, hi, hj, hpu, EG, MN, rfl⟩ := hx
 have hid : id < h.length := (At.1 hh).1
 have KP : sub < h.length := (At.1 hs).1
 obtain ⟨hl, aI⟩ := hc.heap id g sz n e f hh
 have AY : j < sz := by rw [← hl i hi]; exact (At.1 hj).1
 generalize hFF : FAb μ h sub = F
 rw [hFF] at EG
 have am8 : ∀ b, F b → bH μ h b := fun b hb => by
  rw [← hFF] at hb
  rcases hb with ⟨g, sz, n, e, f, base, q1, q2⟩ | ⟨x, y, q⟩
  ·exact .inl ⟨sub, _, _, _, _, _, _, q1, q2⟩
  ·exact att
 generalize Qr : (h.set id (ak.row g sz n e f1)).set sub ak.dead = h1
 have qO : h1[id]? = some (ak.row g sz n e f1) := by rw [← Qr, arG (asb nq)]; simp [hid]
 have uG : h1[sub]? = some ak.dead := by rw [← Qr, asc (by simpa using KP)]
 have bS : ∀ k, k ≠ id → k ≠ sub → h1[k]? = h[k]? := fun k h2 h3 => by rw [← Qr, arG (asb h3), arG (asb h2)]
 have inv : ∀ k gk sk nk ek fk, h1[k]? = some (ak.row gk sk nk ek fk) → k ≠ sub ∧ ((k = id ∧ ak.row gk sk nk ek fk = ak.row g sz n e f1) ∨ (k ≠ id ∧ h[k]? = some (ak.row gk sk nk ek fk))) := fun k gk sk nk ek fk hk => by
  have h3 : k ≠ sub := by rintro rfl; rw [uG] at hk; cases hk
  refine ⟨h3, ?_⟩
  by_cases h2 : k = id
  ·subst h2; rw [qO] at hk; injection hk with hk; exact .inl ⟨rfl, hk.symm⟩
  ·rw [bS k h2 h3] at hk; exact .inr ⟨h2, hk⟩
 have wi : ∀ x y pv, x < n → (f1 x)[y]? = some pv → ((x = i ∧ y = j) ∧ pv = .fh lk n2 e2 f2 F) ∨ (¬ (x = i ∧ y = j) ∧ (f x)[y]? = some pv) := fun x y pv hx hy => by
  by_cases hxi : x = i
  ·subst hxi
   rw [EG, asw] at hy
   by_cases hyj : j = y
   ·subst hyj
    rw [if_pos rfl, if_pos (by rw [hl x hx]; exact AY)] at hy
    injection hy with hy
    exact .inl ⟨⟨rfl, rfl⟩, hy.symm⟩
   ·rw [if_neg hyj] at hy
    exact .inr ⟨fun q => hyj q.2.symm, hy⟩
  ·rw [MN x hx hxi] at hy
   exact .inr ⟨fun q => hxi q.1, hy⟩
 have ew : ∀ k x y b, cA h1 k x y b → (k = id ∧ x = i ∧ y = j ∧ F b) ∨ (k ≠ sub ∧ ¬ (k = id ∧ x = i ∧ y = j) ∧ cA h k x y b) := fun k x y b ⟨g3, s3, n3, e3, f3, s4, n4, e4, f4, F4, q1, q2, q3, q4⟩ => by
  obtain ⟨h3, hq⟩ := inv k _ _ _ _ _ q1
  rcases hq with ⟨rfl, ho⟩ | ⟨h2, h4⟩
  ·injection ho with a1 a2 a3 a4 a5
   subst a1 a2 a3 a4 a5
   rcases wi x y _ q2 q3 with ⟨⟨r1, r2⟩, hq⟩ | ⟨hne', hq⟩
   ·injection hq with _ _ _ _ hq
    subst hq
    exact .inl ⟨rfl, r1, r2, q4⟩
   ·exact .inr ⟨h3, fun ⟨_, b1⟩ => hne' b1, _, _, _, _, _, _, _, _, _, _, hh, q2, hq, q4⟩
  ·exact .inr ⟨h3, fun ⟨b1, _⟩ => h2 b1, _, _, _, _, _, _, _, _, _, _, h4, q2, q3, q4⟩
 have wj : ∀ b, xc μ h1 b → ∃ k gk sk nk ek fk base, k ≠ sub ∧ h[k]? = some (ak.row gk sk nk ek fk) ∧ μ k = some (b, base) := fun b ⟨k, g3, s3, n3, e3, f3, base, q1, q2⟩ => by
  obtain ⟨h3, hq⟩ := inv k _ _ _ _ _ q1
  rcases hq with ⟨rfl, ho⟩ | ⟨h2, h4⟩
  ·exact ⟨k, _, _, _, _, _, _, h3, hh, q2⟩
  ·exact ⟨k, _, _, _, _, _, _, h3, h4, q2⟩
 have kh : ∀ b, bH μ h1 b → bH μ h b := fun b hb => by
  rcases hb with hb | ⟨k, x, y, hb⟩
  ·obtain ⟨k, _, _, _, _, _, _, _, q1, q2⟩ := wj b hb
   exact .inl ⟨k, _, _, _, _, _, _, q1, q2⟩
  ·rcases ew k x y b hb with ⟨_, _, _, q⟩ | ⟨_, _, q⟩
   ·exact am8 b q
   ·exact att
 have jk : Fr μ h S w μ h1 S w := by
  refine ⟨by rw [← Qr]; simp, fun _ _ _ => rfl, fun _ hb => hb, fun _ hb => .inl hb, fun b hb => .inl (kh b hb), aqQ _, rfl, rfl, rfl, fun k g3 s3 n3 e3 f3 hk => ?_, fun k hk => ?_, fun _ _ _ hc => hc, fun k g3 s3 n3 e3 f3 b base hk hm k4 => ⟨k4, ?_⟩, fun _ _ _ _ _ k4 => k4⟩
  ·by_cases sW : k = id
   ·subst sW
    rw [hh] at hk
    injection hk with hk
    injection hk with a1 a2 a3 a4 a5
    subst a1 a2 a3 a4 a5
    rw [qO]
    exact atp
   ·by_cases wJ : k = sub
    ·subst wJ; rw [uG]; trivial
    ·rw [bS k sW wJ, hk]
     exact atp
  ·by_cases wJ : k = sub
   ·subst wJ; exact uG
   ·rw [bS k (by rintro rfl; rw [hh] at hk; cases hk) wJ]; exact hk
  ·by_cases wJ : k = sub
   ·subst wJ; exact .inl uG
   ·refine .inr ⟨?_, hm⟩
    by_cases sW : k = id
    ·subst sW; exact ⟨_, _, _, _, _, qO⟩
    ·exact ⟨_, _, _, _, _, (bS k sW wJ).trans hk⟩
 have U4 : ∀ k x y b, k ≠ sub → cA h k x y b → ¬ F b := fun k x y b hk hx hF => by
  rw [← hFF] at hF
  rcases hF with ⟨_, _, _, _, _, _, q1, q2⟩ | ⟨_, _, q⟩
  ·exact hc.ok.hv b ⟨sub, _, _, _, _, _, _, q1, q2⟩ _ _ _ hx
  ·exact hk (hc.ok.hh b _ _ _ _ _ _ hx q).1
 refine ⟨jk, ⟨fun k g3 s3 n3 e3 f3 hk => ?_, ⟨fun b hb => hc.ok.apart b (kh b hb), fun b hb => hc.ok.lt b (kh b hb), hc.ok.slt, ?_, hc.ok.known, fun b hb k x y hx => ?_, fun b k x y k' x' y' hx qC => ?_⟩⟩⟩
 ·obtain ⟨h3, hq⟩ := inv k _ _ _ _ _ hk
  rcases hq with ⟨rfl, ho⟩ | ⟨h2, h4⟩
  ·injection ho with a1 a2 a3 a4 a5
   subst a1 a2 a3 a4 a5
   refine ⟨fun x hx => ?_, ?_⟩
   ·by_cases hxi : x = i
    ·subst hxi; rw [EG, asp]; exact hl x hx
    ·rw [MN x hx hxi]; exact hl x hx
   ·cases dW : μ k with
    | none => rw [dW] at aI; exact aI
    | some p =>
     obtain ⟨b0, tR⟩ := p
     rw [dW] at aI
     obtain ⟨o, q1, q2⟩ := aI
     refine ⟨o, q1, ?_⟩
     cases o with
     | cells BS e0 z =>
      obtain ⟨rfl, rfl, q3, q4⟩ := q2
      refine ⟨rfl, rfl, q3, fun x y pv hx hy => ?_⟩
      rcases wi x y pv hx hy with ⟨⟨rfl, rfl⟩, rfl⟩ | ⟨_, hq⟩
      ·obtain ⟨v, r1, r2⟩ := q4 x y _ hx hj
       refine ⟨v, r1, ?_⟩
       show jI S w (.fh lk n2 e2 f2 F) v
       have r2 : aX μ h w sub g2 0 n2 v := r2
       unfold aX at r2
       rw [hs] at r2
       obtain ⟨_, _, r3⟩ := r2
       obtain ⟨_, r4⟩ := r3 rfl
       obtain ⟨s1, s2⟩ := hc.heap sub _ _ _ _ _ hs
       cases hms : μ sub with
       | none =>
        rw [hms] at r4 s2
        have s2 : n2 = 0 := s2
        have r4 : v = .slice none 0 0 := r4
        subst s2 r4
        refine .nil _ _ _ _ (fun b hb => ?_)
        rw [← hFF] at hb
        rcases hb with ⟨_, _, _, _, _, _, _, t2⟩ | ⟨x', y', t1, t2, t3, t4, t5, t6, t7, t8, t9, t10, u1, u2, u3, u4⟩
        ·rw [hms] at t2; cases t2
        ·rw [hs] at u1
         injection u1 with u1
         injection u1 with _ _ u1 _ _
         omega
       | some p =>
        obtain ⟨b, base⟩ := p
        rw [hms] at r4 s2
        obtain ⟨a, cap, rfl, t2, t3, t4⟩ := r4
        obtain ⟨cur, u1, u2, u3⟩ := bx.cells t4 s2
        have dS : base + cap * lk ≤ cur.size := by
         obtain ⟨CO, e', z', p1, p2⟩ := t4
         rw [u1] at p1
         injection p1 with p1
         injection p1 with p1 _ _
         subst p1
         rw [are] at p2
         exact p2
        have vis : xc μ h b := ⟨sub, _, _, _, _, _, _, hs, hms⟩
        have aaZ : ∀ (x y s5 n5 : Nat) (e5 : TypeId) (f5 : Nat → List PV) (F5 : Nat → Prop), x < n2 → (f2 x)[y]? = some (.fh s5 n5 e5 f5 F5) → ∀ b', F5 b' → cA h sub x y b' := fun x y s5 n5 e5 f5 F5 hx hy b' kr => ⟨_, _, _, _, _, _, _, _, _, _, hs, hx, hy, kr⟩
        refine .vi lk n2 e2 f2 F b base cap a cur (fun x y => (cur[base + x * lk + y]?).getD undef) (by rw [← hFF]; exact .inl ⟨_, _, _, _, _, _, hs, hms⟩) u1 s1 t2 (fun h0 => by rw [t3 h0]; simp) dS (fun x y pv hx hy => ?_) (fun x y pv hx hy => ?_) (fun x y s5 n5 e5 f5 F5 hx hy => ?_) (fun x y s5 n5 e5 f5 F5 hx hy b' kr => ?_) (fun x y s5 n5 e5 f5 F5 x' y' s6 n6 e6 f6 F6 hx hy qC hy' b' kr xF => ?_)
        ·obtain ⟨u, w1, _⟩ := u3 x y pv hx hy
         rw [w1]; rfl
        ·obtain ⟨u, w1, w2⟩ := u3 x y pv hx hy
         rw [w1]
         rcases hpu x hx pv (ari hy) with z1 | z1
         ·exact .inl (tj z1 w2.c)
         ·exact .inr (by cases pv <;> first | exact ⟨_, _, _, _, _, rfl⟩ | cases z1)
        ·obtain ⟨u, w1, w2⟩ := u3 x y _ hx hy
         rw [w1]
         exact w2
        ·have hq := aaZ x y s5 n5 e5 f5 F5 hx hy b' kr
         refine ⟨by rw [← hFF]; exact .inr ⟨_, _, hq⟩, ?_⟩
         rintro rfl
         exact hc.ok.hv b' vis _ _ _ hq
        ·exact (hc.ok.hh b' _ _ _ _ _ _ (aaZ x y s5 n5 e5 f5 F5 hx hy b' kr) (aaZ x' y' s6 n6 e6 f6 F6 qC hy' b' xF)).2
      ·obtain ⟨u, r1, r2⟩ := q4 x y pv hx hq
       exact ⟨u, r1, r2.fr jk hc.ok (fun _ _ _ _ _ _ _ _ => rfl)⟩
     | map es c =>
      obtain ⟨kp, vp, en, y1, y2, y3, _⟩ := q2.2 i hi
      rw [y1] at hj
      match j, hj with
      | 0, hj => simp at hj; rw [hj] at y2; cases y2
      | 1, hj => simp at hj; rw [hj] at y3; cases y3
      | y + 2, hj => simp at hj
     | _ => exact q2.elim
  ·obtain ⟨q1, q2⟩ := hc.heap k _ _ _ _ _ h4
   refine ⟨q1, ?_⟩
   cases hm : μ k with
   | none => rw [hm] at q2; exact q2
   | some pp =>
    obtain ⟨b, base⟩ := pp
    rw [hm] at q2
    obtain ⟨o, r1, r2⟩ := q2
    exact ⟨o, r1, r2.mono (fun _ _ _ _ _ _ hr => hr.fr jk hc.ok (fun _ _ _ _ _ _ _ _ => rfl))⟩
 ·intro a b ga sa na ea fa gb sb nb eb fb vi o o' ha hb hma k4
  have Dn : ∀ k gk sk nk ek fk, h1[k]? = some (ak.row gk sk nk ek fk) → ∃ gk sk nk ek fk, h[k]? = some (ak.row gk sk nk ek fk) := fun k gk sk nk ek fk hk => by
   rcases (inv k _ _ _ _ _ hk).2 with ⟨rfl, _⟩ | ⟨_, q⟩
   ·exact ⟨_, _, _, _, _, hh⟩
   ·exact ⟨_, _, _, _, _, q⟩
  obtain ⟨_, _, _, _, _, q1⟩ := Dn a _ _ _ _ _ ha
  obtain ⟨_, _, _, _, _, q2⟩ := Dn b _ _ _ _ _ hb
  exact hc.ok.inj a b _ _ _ _ _ _ _ _ _ _ _ _ _ q1 q2 hma k4
 ·obtain ⟨k0, _, _, _, _, _, _, q0, q1, q2⟩ := wj b hb
  rcases ew k x y b hx with ⟨_, _, _, q⟩ | ⟨_, _, q⟩
  ·rw [← hFF] at q
   rcases q with ⟨_, _, _, _, _, _, r1, r2⟩ | ⟨_, _, r⟩
   ·exact q0 (hc.ok.inj k0 sub _ _ _ _ _ _ _ _ _ _ _ _ _ q1 r1 q2 r2)
   ·exact hc.ok.hv b ⟨k0, _, _, _, _, _, _, q1, q2⟩ _ _ _ r
  ·exact hc.ok.hv b ⟨k0, _, _, _, _, _, _, q1, q2⟩ _ _ _ q
 ·rcases ew k x y b hx with ⟨rfl, rfl, rfl, q⟩ | ⟨k1, _, q⟩
  ·rcases ew k' x' y' b qC with ⟨rfl, rfl, rfl, _⟩ | ⟨k2, _, r⟩
   ·exact ⟨rfl, rfl, rfl⟩
   ·exact absurd q (U4 _ _ _ _ k2 r)
  ·rcases ew k' x' y' b qC with ⟨rfl, rfl, rfl, r⟩ | ⟨k2, _, r⟩
   ·exact absurd r (U4 _ _ _ _ k1 q)
   ·exact hc.ok.hh b _ _ _ _ _ _ q r
variable {C : Start} {env : Env} {a : Act}
theorem kk.turn (hs : kk C μ h S env a w) {μ' : Mu} (hf : Fr μ h S w μ' h1 S w) (hc : Core μ' h1 S w) : kk C μ' h1 S env a w :=
 ⟨hc, hs.fr.trans hf, fun t => (hs.tmps t).fr hf hs.core.ok, hs.size, hs.far, hs.defers⟩
theorem kk.ex (hs : kk C μ h S env a w) (hx : Dr h h1) : ∃ μ', kk C μ' h1 S env a w := by
 obtain ⟨μ', hf, hc⟩ := EI hs.core hx
 exact ⟨μ', hs.turn hf hc⟩
theorem kk.ab (hs : kk C μ h S env a w) {id i j sub : Nat} {h1 : (Nat → Prop) → List ak} (ha : ∀ F, Ds h id i j sub F (h1 F)) : ∃ F, kk C μ (h1 F) S env a w := by
 obtain ⟨hf, hc⟩ := EJ hs.core (ha (FAb μ h sub))
 exact ⟨_, hs.turn hf hc⟩
end
end Go.Am
