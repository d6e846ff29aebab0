/- Texts of the proof, joined and shortened. -/
import Derived.Test.YtiigfbapjeefbaaGreatDoorPk1
import Derived.MapKept
import Derived.Lib.ConvBytes
import Derived.Lib.AtoiErrMem
import Derived.Deep.LoopGhost
set_option linter.unusedVariables false
set_option linter.unusedSimpArgs false
namespace Go.Am
open Go Go.RowKit
section
variable {P : Program} {T : lq} {μ : Mu} {h : List ak} {S : Nat → Prop} {w : World}
theorem lP (t tx ty e : TypeId) (i : TypeInfo) (d : TypeDesc) (ht : P.underlying t = some (.slice e)) (hx : P.underlying tx = some d) (hd : (∃ e', d = .slice e') ∨ d = .string) (hi : P.info? e = some i)
  (sa : Option Addr) (ll ta : Nat) (xv : Value) (m : Nat) (news : Array Value) (w' : World) (hlen : (Builtin.lenOf xv).run P w = .ok m w) (hfc : (Builtin.firstCells i.size m xv).run P w = .ok news w) (rT : ll + m ≤ ta)
  (qV : match sa with | some a => (storeCells (a.add (ll * i.size)) news.toList).run P w = .ok () w' | none => w' = w) :
  (Builtin.append_ #[t, tx] ty #[.slice sa ll ta, xv]).run P w = .ok (.slice sa (ll + m) ta) w' := by
 rcases hd with ⟨e', rfl⟩ | rfl <;> cases sa with
 | none =>
  have qV : w' = w := qV
  subst qV
  simp [Builtin.append_, run_underlying ht, run_underlying hx, sizeOf, typeInfo, hi, hlen, rT, hfc]
 | some a =>
  have qV : (storeCells (a.add (ll * i.size)) news.toList).run P w = .ok () w' := qV
  simp [Builtin.append_, run_underlying ht, run_underlying hx, sizeOf, typeInfo, hi, hlen, rT, hfc, qV]
theorem n8 (t tx ty e : TypeId) (i : TypeInfo) (z : Value) (d : TypeDesc) (ht : P.underlying t = some (.slice e)) (hx : P.underlying tx = some d) (hd : (∃ e', d = .slice e') ∨ d = .string) (hi : P.info? e = some i) (hz : i.zero = some z)
  (sa : Option Addr) (ll ta : Nat) (xv : Value) (m : Nat) (uu news : Array Value) (hlen : (Builtin.lenOf xv).run P w = .ok m w) (CF : (Builtin.firstCells i.size ll (.slice sa ll ta)).run P w.drew = .ok uu w.drew)
  (hfc : (Builtin.firstCells i.size m xv).run P w.drew = .ok news w.drew) (hg : ta < ll + m) (Y1 : 0 < i.bytes) (mP : (ll + m) * i.bytes ≤ 140737488355328) :
  (Builtin.append_ #[t, tx] ty #[.slice sa ll ta, xv]).run P w = .ok (.slice (some ⟨w.heap.size, 0, none⟩) (ll + m) (grownCap w (ll + m) ta e))
   (w.drew.alloc (.cells (uu ++ news ++ Builtin.zeroCells z.cells (grownCap w (ll + m) ta e - (ll + m))) e)) := by
 have hn : ¬ (ll + m ≤ ta) := by omega
 have hle : ll + m ≤ (ll + m) * i.bytes := Nat.le_mul_of_pos_right _ Y1
 have Y2 : ¬ (9223372036854775807 < ((ll : Int) + (m : Int))) := by omega
 have aqI := growslice_fits hg mP
 have aqt : ¬ (281474976710656 < Builtin.nextslicecap (ll + m) ta * i.bytes) := by omega
 rcases hd with ⟨e', rfl⟩ | rfl <;>
  simp [Builtin.append_, run_underlying ht, run_underlying hx, sizeOf, typeInfo, zeroValue, hi, hz, hlen, hn, Y2, aqt, Question.forced, hfc, CF, newRow, grownCap]
theorem BJ (b off m sz : Nat) (fv : 0 < sz) (g : Nat → List PV) (hl : ∀ i, i < m → (g i).length = sz)
  (aI : ∀ (i j : Nat) (pv : PV), i < m → (g i)[j]? = some pv → ∃ u, w.cell? ⟨b, off + i * sz + j, none⟩ = some u ∧ k4 μ h S w pv u) :
  ∃ news : Array Value, news.size = m * sz ∧ (∀ (i j : Nat) (pv : PV), i < m → (g i)[j]? = some pv → ∃ u, news[i * sz + j]? = some u ∧ k4 μ h S w pv u) ∧
   (∀ u ∈ news.toList, u.oneCell' = true) ∧ ∀ w', bF w w' → (loadCells ⟨b, off, none⟩ (m * sz)).run P w' = .ok news w' := by
 let F : Nat → Value := fun q => (w.cell? ⟨b, off + q, none⟩).getD undef
 have hF : ∀ (i j : Nat) (pv : PV), i < m → (g i)[j]? = some pv → w.cell? ⟨b, off + (i * sz + j), none⟩ = some (F (i * sz + j)) ∧ k4 μ h S w pv (F (i * sz + j)) := fun i j pv hi hj => by
  obtain ⟨u, h1, h2⟩ := aI i j pv hi hj
  have e : off + (i * sz + j) = off + i * sz + j := by omega
  have e2 : F (i * sz + j) = u := by
   show (w.cell? ⟨b, off + (i * sz + j), none⟩).getD undef = u
   rw [e, h1]; rfl
  rw [e2, e]
  exact ⟨h1, h2⟩
 have hq : ∀ q, q < m * sz → ∃ pv, q / sz < m ∧ (g (q / sz))[q % sz]? = some pv := fun q hq => by
  have h1 : q / sz < m := (Nat.div_lt_iff_lt_mul fv).2 hq
  have h2 : q % sz < (g (q / sz)).length := by rw [hl _ h1]; exact Nat.mod_lt _ fv
  exact ⟨_, h1, Of h2⟩
 have xW : ∀ q, q / sz * sz + q % sz = q := fun q => by rw [Nat.mul_comm]; exact Nat.div_add_mod q sz
 refine ⟨((List.range (m * sz)).map F).toArray, by simp, fun i j pv hi hj => ?_, fun u hu => ?_, fun w' ha => ?_⟩
 ·have AU : j < sz := by rw [← hl i hi]; exact (At.1 hj).1
  have cD : i * sz + j < m * sz := by
   have : (i + 1) * sz ≤ m * sz := ari _ hi
   rw [arq] at this
   omega
  exact ⟨F (i * sz + j), by simp [cD], (hF i j pv hi hj).2⟩
 ·simp only [arj, ash] at hu
  obtain ⟨q, hql, rfl⟩ := hu
  obtain ⟨pv, h1, h2⟩ := hq q hql
  have := (hF _ _ pv h1 h2).2.c.one
  rwa [xW] at this
 ·refine run_loadCells w' ⟨b, off, none⟩ (m * sz) F fun q hql => ?_
  obtain ⟨pv, h1, h2⟩ := hq q hql
  have := (hF _ _ pv h1 h2).1
  rw [xW] at this
  rw [Addr.add_lit]
  exact ha.cell this
theorem ED : ∀ {l : List PV}, noO l = true → ∀ {j : Nat} {pv : PV}, l[j]? = some pv → eC pv = false
 | [], _, j, pv, hj => by simp at hj
 | c :: r, h, 0, pv, hj => by
  simp at hj
  subst hj
  cases c <;> first | rfl | cases h
 | c :: r, h, j + 1, pv, hj => ED (l := r) (by cases c <;> first | exact h | cases h) atC
def Src (P : Program) (μ : Mu) (h : List ak) (S : Nat → Prop) (w : World) (xv : Value) (sz m : Nat) (g : Nat → List PV) : Prop :=
 (∀ i, i < m → (g i).length = sz) ∧ ∃ news : Array Value, news.size = m * sz ∧ (∀ (i j : Nat) (pv : PV), i < m → (g i)[j]? = some pv → ∃ u, news[i * sz + j]? = some u ∧ k4 μ h S w pv u) ∧
  (∀ u ∈ news.toList, u.oneCell' = true) ∧ ∀ w', bF w w' → (Builtin.lenOf xv).run P w' = .ok m w' ∧ (Builtin.firstCells sz m xv).run P w' = .ok news w'
theorem Src.empty (xv : Value) (sz : Nat) (g : Nat → List PV) (hx : ∃ a c, xv = .slice a 0 c) : Src P μ h S w xv sz 0 g := by
 obtain ⟨a, c, rfl⟩ := hx
 refine ⟨fun i hi => absurd hi att, #[], by simp, fun i j pv hi => absurd hi att, fun u hu => by simp at hu, fun w' _ => ⟨rfl, ?_⟩⟩
 cases a with
 | none => rfl
 | some a => simp [Builtin.firstCells, loadCells, loadCellsFrom]
theorem tb (hc : Core μ h S w) (id g off len sz n : Nat) (e : TypeId) (f : Nat → List PV) (hh : h[id]? = some (ak.row g sz n e f)) (v : Value) (hv : aY μ h S w (.own id g off len) v) (fv : 0 < sz) : Src P μ h S w v sz len (fun i => f (off + i)) := by
 have hr := hv.nI
 unfold aV at hr
 rw [hh] at hr
 obtain ⟨_, _, hr⟩ := hr
 obtain ⟨hle, hr⟩ := hr rfl
 obtain ⟨hl, aI⟩ := hc.heap id g sz n e f hh
 cases dX : μ id with
 | none =>
  rw [dX] at hr aI
  have hn : n = 0 := aI
  have h0 : len = 0 := by omega
  subst h0
  exact Src.empty v sz _ ⟨_, _, hr⟩
 | some p =>
  obtain ⟨b, base⟩ := p
  rw [dX] at hr aI
  obtain ⟨ad, cap, hv, Oi, rP, CH⟩ := hr
  obtain ⟨cur, ju, mP, iW⟩ := bw.cells CH aI
  rcases arP len with h0 | h0
  ·subst h0
   exact Src.empty v sz _ ⟨_, _, hv⟩
  ·have rP := rP att
   subst rP
   obtain ⟨news, q1, q2, q3, q4⟩ := BJ (P := P) (μ := μ) (h := h) (S := S) (w := w) b (base + off * sz) len sz fv (fun i => f (off + i)) (fun i hi => hl _ att) (fun i j pv hi hj => by
    obtain ⟨u, r1, r2⟩ := iW (off + i) j pv att hj
    refine ⟨u, ?_, r2⟩
    rw [cell_of_row w b _ cur e (0, 0) ju, ← r1]
    congr 1
    rw [arq]
    omega)
   exact ⟨fun i hi => hl _ att, news, q1, q2, q3, fun w' ha => ⟨by rw [hv]; rfl, by rw [hv]; exact q4 w' ha⟩⟩
theorem tc (hc : Core μ h S w) (x : PV) (xv : Value) (hx : aY μ h S w x xv) (sz : Nat) (fv : 0 < sz) (K : Nat → (Nat → List PV) → Prop) (hp : BK x h sz K) : ∃ m g, K m g ∧ Src P μ h S w xv sz m g ∧ ∀ (i j : Nat) (pv : PV), i < m → (g i)[j]? = some pv → eC pv = false := by
 unfold BK at hp
 split at hp
 ·exact ⟨_, _, hp, Src.empty _ _ _ ⟨_, _, hx.mV⟩, fun i j pv hi => absurd hi (arK _)⟩
 ·rename_i bs m g
  replace hp := aR hp
  obtain ⟨vx, hp⟩ := hp
  obtain rfl := No vx
  refine ⟨m, g, hp, ?_⟩
  rcases hx.pF with ⟨a, c, ex, rfl⟩ | ⟨b, off, c, vf, ex, hS, hl, TU, aI, ku⟩
  ·exact ⟨Src.empty _ _ _ ⟨_, _, ex⟩, fun i j pv hi => absurd hi (arK _)⟩
  ·obtain ⟨news, q1, q2, q3, q4⟩ := BJ (P := P) (μ := μ) (h := h) (S := S) (w := w) b off m sz fv g hl (fun i j pv hi hj => ⟨_, aI i j pv hi hj, (bm.jd (ku i j pv hi hj)).k (aE.no (ku i j pv hi hj))⟩)
   exact ⟨⟨hl, news, q1, q2, q3, fun w' ha => ⟨by rw [ex]; rfl, by rw [ex]; exact q4 w' ha⟩⟩, fun i j pv hi hj => aE.no (ku i j pv hi hj)⟩
 ·rename_i id gen off m
  split at hp
  ·rename_i g bs n e f hg
   obtain ⟨rfl, w4, hp⟩ := hp
   replace hp := aR hp
   obtain ⟨vx, hp⟩ := hp
   obtain rfl := No vx
   exact ⟨m, _, hp, tb hc id g off m sz n e f (dK hg) xv hx fv, fun i j pv hi hj => ED (w4 i hi) hj⟩
  ·exact asY
 ·rename_i s
  replace hp := aR hp
  obtain ⟨vx, hp⟩ := hp
  obtain rfl := No vx
  refine ⟨_, _, hp, ⟨fun i hi => rfl, (s.map fun b => Value.int .u8 b.toNat).toArray, by simp, fun i j pv hi hj => ?_, fun u hu => ?_, fun w' _ => ⟨by rw [hx.j9]; rfl, ?_⟩⟩, fun i j pv hi hj => ?_⟩
  ·cases j with
   | zero =>
    simp at hj
    subst hj
    refine ⟨.int .u8 (s.getD i 0).toNat, ?_, aE.int _ _⟩
    rw [arc, Of hi]
    simp [hi]
   | succ j => simp at hj
  ·simp at hu
   obtain ⟨b, _, rfl⟩ := hu
   rfl
  ·rw [hx.j9]
   have e1 : (ByteArray.mk ⟨s⟩).extract 0 s.length = ByteArray.mk ⟨s⟩ := by rw [tM]; simp
   simp only [Builtin.firstCells, e1]
   simp
  ·cases j with
   | zero => simp at hj; subst hj; rfl
   | succ j => simp at hj
 ·exact asY
end
section
variable {P : Program} {T : lq} {μ : Mu} {h : List ak} {S : Nat → Prop} {w : World}
theorem xj (hc : Core μ h S w) (id g g1 sz n : Nat) (e : TypeId) (f f1 : Nat → List PV) (hh : h[id]? = some (ak.row g sz n e f)) (dX : μ id = none) (hg : g < g1) :
  Fr μ h S w μ (h.set id (.row g1 sz 0 e f1)) S w ∧ Core μ (h.set id (.row g1 sz 0 e f1)) S w := by
 have hid : id < h.length := (At.1 hh).1
 have gZ : (h.set id (ak.row g1 sz 0 e f1))[id]? = some (ak.row g1 sz 0 e f1) := by simp [hid]
 have bR : ∀ j, j ≠ id → (h.set id (ak.row g1 sz 0 e f1))[j]? = h[j]? := fun j hj => by rw [arF (asa hj)]
 have uv : ∀ b, w8 μ (h.set id (ak.row g1 sz 0 e f1)) b → w8 μ h b := fun b hb => by
  obtain ⟨j, gj, lK, nj, ej, fj, n7, hj, hm⟩ := hb
  by_cases gH : j = id
  ·subst gH; rw [dX] at hm; cases hm
  ·rw [bR j gH] at hj; exact ⟨j, gj, lK, nj, ej, fj, n7, hj, hm⟩
 have lZ : ∀ j x y b, cA (h.set id (ak.row g1 sz 0 e f1)) j x y b → cA h j x y b := fun j x y b ⟨gj, lK, nj, ej, fj, bs, n', e', f', F', q1, q2, q3, q4⟩ => by
  by_cases gH : j = id
  ·subst gH
   rw [gZ] at q1
   injection q1 with q1
   injection q1 with e1 e2 e3 e4 e5
   omega
  ·rw [bR j gH] at q1
   exact atq
 have kh : ∀ b, bH μ (h.set id (ak.row g1 sz 0 e f1)) b → bH μ h b := fun b hb => by
  rcases hb with hb | ⟨x, y, z, hb⟩
  ·exact .inl (uv b hb)
  ·exact .inr ⟨x, y, z, lZ _ _ _ _ hb⟩
 have ji : Fr μ h S w μ (h.set id (.row g1 sz 0 e f1)) S w := by
  refine ⟨by simp, fun _ _ _ => rfl, fun _ hb => hb, fun _ hb => .inl hb, fun b hb => .inl (kh b hb), aqP _, rfl, rfl, rfl, fun j gj lK nj ej fj hj => ?_, fun j hj => ?_, fun _ _ _ dT => dT, fun j gj lK nj ej fj b base hj hm kY => ⟨kY, .inr ⟨⟨_, _, _, _, _, (bR j (by rintro rfl; rw [dX] at hm; cases hm)).trans hj⟩, hm⟩⟩, fun _ _ _ _ _ kY => kY⟩
  ·by_cases gH : j = id
   ·subst gH
    rw [hh] at hj
    injection hj with hj
    injection hj with e1 e2 e3 e4 e5
    subst e1 e2 e3 e4 e5
    rw [gZ]
    exact ⟨by omega, fun he => absurd he att⟩
   ·rw [bR j gH, hj]
    exact ato
  ·have gH : j ≠ id := by rintro rfl; rw [hh] at hj; cases hj
   rw [bR j gH]; exact hj
 refine ⟨ji, ⟨fun j gj lK nj ej fj hj => ?_, ⟨fun b hb => hc.ok.apart b (kh b hb), fun b hb => hc.ok.lt b (kh b hb), hc.ok.slt, ?_, hc.ok.known, fun b hb x y z hx => hc.ok.hv b (uv b hb) x y z (lZ _ _ _ _ hx), fun b _ _ _ _ _ _ hx hy => hc.ok.hh b _ _ _ _ _ _ (lZ _ _ _ _ hx) (lZ _ _ _ _ hy)⟩⟩⟩
 ·by_cases gH : j = id
  ·subst gH
   rw [gZ] at hj
   injection hj with hj
   injection hj with e1 e2 e3 e4 e5
   subst e1 e2 e3 e4 e5
   refine ⟨fun i hi => absurd hi att, ?_⟩
   rw [dX]
  ·rw [bR j gH] at hj
   obtain ⟨h1, h2⟩ := hc.heap j gj lK nj ej fj hj
   refine ⟨h1, ?_⟩
   cases hm : μ j with
   | none => rw [hm] at h2; exact h2
   | some p =>
    obtain ⟨b, base⟩ := p
    rw [hm] at h2
    obtain ⟨o, q1, q2⟩ := h2
    exact ⟨o, q1, q2.mono (fun _ _ _ _ _ _ hr => hr.fr ji hc.ok (fun _ _ _ _ _ _ _ _ => rfl))⟩
 ·intro i j gi NC ni ei fi gj lK nj ej fj b o o' hi hj lY lj
  have G7 : i ≠ id := by rintro rfl; rw [dX] at lY; cases lY
  have gH : j ≠ id := by rintro rfl; rw [dX] at lj; cases lj
  rw [bR i G7] at hi
  rw [bR j gH] at hj
  exact hc.ok.inj i j _ _ _ _ _ _ _ _ _ _ _ _ _ hi hj lY lj
variable {a : Act} {env : Env} {K : PV → List ak → Prop} {dst : Option Tmp} {ty : TypeId} {pos : String} {after : Array Edge} {guard : Option (Nat × Bool)}
theorem pk (z : Array Value) (n : Nat) : (Builtin.zeroCells z n).size = n * z.size := by simp [Builtin.zeroCells]
theorem kV {s x : Operand} {t tx : TypeId} {sv xv v' : Value} {w' : World} (hs : a.eval s = sv) (hx : a.eval x = xv) (hr : (Builtin.append_ #[t, tx] ty #[sv, xv]).run P w = .ok v' w') :
  (execOp a.eval ⟨dst, .call ⟨.builtin .append, #[s, x], #[t, tx]⟩, ty, pos, after, guard⟩).run P w = .ok (.value v') w' := by
 simp only [execOp, resolve, invoke, builtin, Sem.run_bind, Sem.run_pure, Result.andThen_ok, asx, adr, aqS, hs, hx, hr]
theorem Dh {sz l m : Nat} {f q : Nat → List PV} {uu news rest : Array Value} (ho : uu.size = l * sz) (hn : news.size = m * sz)
  (h1 : ∀ (i j : Nat) (pv : PV), i < l → (f i)[j]? = some pv → ∃ u, uu[i * sz + j]? = some u ∧ k4 μ h S w pv u)
  (h2 : ∀ (i j : Nat) (pv : PV), i < m → (q i)[j]? = some pv → ∃ u, news[i * sz + j]? = some u ∧ k4 μ h S w pv u)
  (Y9 : ∀ i, i < l → (f i).length = sz) (ns : ∀ i, i < m → (q i).length = sz) :
  ∀ (i j : Nat) (pv : PV), i < l + m → (bif Nat.blt i l then f i else q (i - l))[j]? = some pv → ∃ u, (uu ++ news ++ rest)[i * sz + j]? = some u ∧ k4 μ h S w pv u := by
 intro i j pv hi hj
 by_cases pG : i < l
 ·have hb : Nat.blt i l = true := by simpa using pG
  rw [hb] at hj
  simp only [cond_true] at hj
  obtain ⟨u, q1, q2⟩ := h1 i j pv pG hj
  have cD : i * sz + j < uu.size := (aqT.1 q1).1
  exact ⟨u, by rw [arI atx, arI cD]; exact q1, q2⟩
 ·have hb : Nat.blt i l = false := by
   cases hh : Nat.blt i l with
   | true => exact (pG (by simpa using hh)).elim
   | false => rfl
  rw [hb] at hj
  simp only [cond_false] at hj
  obtain ⟨u, q1, q2⟩ := h2 (i - l) j pv att hj
  have cD : (i - l) * sz + j < news.size := (aqT.1 q1).1
  have hmul : i * sz = l * sz + (i - l) * sz := by rw [← arq]; congr 1; omega
  refine ⟨u, ?_, q2⟩
  rw [arI atx, Array.getElem?_append_right att, ← q1]
  congr 1
  omega
theorem MD {sz l m : Nat} {f q : Nat → List PV} (Y9 : ∀ i, i < l → (f i).length = sz) (ns : ∀ i, i < m → (q i).length = sz) : ∀ i, i < l + m → (bif Nat.blt i l then f i else q (i - l)).length = sz := by
 intro i hi
 by_cases pG : i < l
 ·have hb : Nat.blt i l = true := by simpa using pG
  rw [hb]; exact Y9 i pG
 ·have hb : Nat.blt i l = false := by
   cases hh : Nat.blt i l with
   | true => exact (pG (by simpa using hh)).elim
   | false => rfl
  rw [hb]; exact ns _ att
theorem tf (w : World) (o : Obj) : bF w (w.drew.alloc o) := (bF.drew w).trans (jO w.drew o)
theorem BL (hT : cd P T) (hc : Core μ h S w) (t tx e sz bytes : Nat) (zero : List PV) (d : TypeDesc) (eL : T.get t = .slice e sz bytes zero) (qB : P.underlying tx = some d) (hd : (∃ e', d = .slice e') ∨ d = .string)
  (s x : Operand) (hs : a.eval s = .slice none 0 0) (m : Nat) (g : Nat → List PV) (vU : Src P μ h S w (a.eval x) sz m g) (hgo : ∀ (i j : Nat) (pv : PV), i < m → (g i)[j]? = some pv → eC pv = false) (hb : m * bytes ≤ 140737488355328) (hK : K (.own h.length 0 0 m) (h ++ [.row 0 sz m e g])) :
  eG P ⟨dst, .call ⟨.builtin .append, #[s, x], #[t, tx]⟩, ty, pos, after, guard⟩ a μ h S w K := by
 obtain ⟨hu, fv, inf, zv, jT, lX, T0, hz, Ny, NA, KM⟩ := hT.slice _ _ _ _ _ eL
 have hbp := hT.bytes _ _ _ _ _ eL
 subst lX T0
 obtain ⟨hl, news, q1, q2, q3, q4⟩ := vU
 rcases arP m with h0 | h0
 ·subst h0
  have hn : news = #[] := arX (by simpa using q1)
  subst hn
  obtain ⟨r1, r2⟩ := q4 w (bF.refl w)
  have hr := lP (P := P) (w := w) t tx ty e inf d hu qB hd jT none 0 0 (a.eval x) 0 #[] w r1 r2 (aqP _) rfl
  obtain ⟨ji, mQ⟩ := lD (w1 := w) hc inf.size 0 e g none rfl (bF.refl w) hl hgo
  refine eG.gC (kV hs rfl hr) hK ?_ mQ ji
  show aV _ _ _ _ _ _ _ _
  unfold aV
  rw [arn (aqP _), arS]
  refine ⟨⟨_, _, _, rfl⟩, aqP _, fun _ => ⟨by omega, ?_⟩⟩
  rw [bg]
 ·obtain ⟨r1, _⟩ := q4 w (bF.refl w)
  obtain ⟨_, r2⟩ := q4 w.drew (bF.drew w)
  have hr := n8 (P := P) (w := w) t tx ty e inf zv d hu qB hd jT hz none 0 0 (a.eval x) m #[] news r1 rfl r2 att hbp (by rw [ard]; exact hb)
  rw [ard] at hr
  obtain ⟨ji, mQ⟩ := lD (w1 := w.drew.alloc (.cells (#[] ++ news ++ Builtin.zeroCells zv.cells (grownCap w m 0 e - m)) e)) hc inf.size m e g (some (w.heap.size, 0))
   ⟨aqP _, _, heap_alloc_new w.drew _, by simp [q1], fun i j pv hi hj => by
    obtain ⟨u, p1, p2⟩ := q2 i j pv hi hj
    have cD := (aqT.1 p1).1
    exact ⟨u, by rw [ass, ard, arI cD]; exact p1, p2.c⟩⟩ (tf w _) hl hgo
  refine eG.gC (kV hs rfl hr) hK ?_ mQ ji
  show aV _ _ _ _ _ _ _ _
  unfold aV
  rw [arn (aqP _), arS]
  refine ⟨⟨_, _, _, rfl⟩, aqP _, fun _ => ⟨by omega, ?_⟩⟩
  rw [bg]
  have NB := grownCap_ge w m 0 e
  refine ⟨_, grownCap w m 0 e, rfl, NB, fun _ => by simp, _, e, _, heap_alloc_new w.drew _, ?_⟩
  simp only [asD, pk, Ny, q1]
  simp only [ard]
  have : grownCap w m 0 e * inf.size = m * inf.size + (grownCap w m 0 e - m) * inf.size := by rw [← arq]; congr 1; omega
  simp
  omega
theorem Di (hT : cd P T) (hc : Core μ h S w) (t tx e sz bytes : Nat) (zero : List PV) (d : TypeDesc) (eL : T.get t = .slice e sz bytes zero) (qB : P.underlying tx = some d) (hd : (∃ e', d = .slice e') ∨ d = .string)
  (s x : Operand) (id g off len n : Nat) (f : Nat → List PV) (hh : h[id]? = some (ak.row g sz n e f)) (hs : aY μ h S w (.own id g off len) (a.eval s)) (m : Nat) (q : Nat → List PV) (vU : Src P μ h S w (a.eval x) sz m q) (hqo : ∀ (i j : Nat) (pv : PV), i < m → (q i)[j]? = some pv → eC pv = false)
  (hb : (len + m) * bytes ≤ 140737488355328)
  (hK : K (.own id (g + 1) 0 (len + m)) (h.set id (.row (g + 1) sz (len + m) e (fun i => bif Nat.blt i len then f (off + i) else q (i - len))))) :
  eG P ⟨dst, .call ⟨.builtin .append, #[s, x], #[t, tx]⟩, ty, pos, after, guard⟩ a μ h S w K := by
 obtain ⟨hu, fv, inf, zv, jT, lX, T0, hz, Ny, NA, KM⟩ := hT.slice _ _ _ _ _ eL
 have hbp := hT.bytes _ _ _ _ _ eL
 subst lX T0
 have hid : id < h.length := (At.1 hh).1
 obtain ⟨Y9, uu, o1, o2, o3, o4⟩ := tb (P := P) hc id g off len inf.size n e f hh _ hs fv
 obtain ⟨ns, news, q1, q2, q3, q4⟩ := vU
 have UY := MD Y9 ns
 have hjo : ∀ {sl : Nat}, off + sl ≤ n → ∀ (i j bs n' : Nat) (e' : TypeId) (f' : Nat → List PV) (F' : Nat → Prop), i < sl + m → (bif Nat.blt i sl then f (off + i) else q (i - sl))[j]? = some (.fm bs n' e' f' F') → off + i < n ∧ (f (off + i))[j]? = some (.fm bs n' e' f' F') := fun {sl} hsn i j bs n' e' f' F' hi hj => by
  by_cases pG : i < sl
  ·have hb : Nat.blt i sl = true := by simpa using pG
   rw [hb] at hj
   exact ⟨by omega, hj⟩
  ·have hb : Nat.blt i sl = false := by
    cases hh : Nat.blt i sl with
    | true => exact (pG (by simpa using hh)).elim
    | false => rfl
   rw [hb] at hj
   have := hqo (i - sl) j _ att hj
   cases this
 have sR := hs.nI
 unfold aV at sR
 rw [hh] at sR
 obtain ⟨⟨sa, sl, ou, GQ⟩, _, sR⟩ := sR
 obtain ⟨hle, sR⟩ := sR rfl
 have KL : sl = len := by
  obtain ⟨e1, _⟩ := o4 w (bF.refl w)
  rw [GQ] at e1
  simp [Builtin.lenOf] at e1
  exact e1
 subst KL
 obtain ⟨hl, aI⟩ := hc.heap id g _ n e f hh
 have Np : ∀ b base, μ id = some (b, base) → ¬ my w b := fun b base dX => by
  rw [dX] at sR
  obtain ⟨_, _, _, _, _, dT⟩ := sR
  exact dT.qw
 by_cases rT : sl + m ≤ ou
 ·-- in place
  obtain ⟨r1, r2⟩ := q4 w (bF.refl w)
  cases dX : μ id with
  | none =>
   rw [dX] at sR aI
   rw [GQ] at sR
   injection sR with e1 e2 e3
   subst e1 e2 e3
   have hm : m = 0 := by omega
   subst hm
   have hn : news = #[] := arX (by simpa using q1)
   subst hn
   have hr := lP (P := P) (w := w) t tx ty e inf d hu qB hd jT none 0 0 (a.eval x) 0 #[] w r1 r2 (aqP _) rfl
   obtain ⟨ji, mQ⟩ := xj hc id g (g + 1) inf.size n e f (fun i => bif Nat.blt i 0 then f (off + i) else q (i - 0)) hh dX (arH g)
   refine eG.gC (kV GQ rfl hr) hK ?_ mQ ji
   show aV _ _ _ _ _ _ _ _
   unfold aV
   rw [asb hid]
   refine ⟨⟨_, _, _, rfl⟩, aqP _, fun _ => ⟨by omega, ?_⟩⟩
   rw [dX]
  | some p =>
   obtain ⟨b, base⟩ := p
   rw [dX] at sR aI
   obtain ⟨ad, cap, hv, Oi, rP, dT⟩ := sR
   rw [GQ] at hv
   injection hv with e1 e2 e3
   subst e1 e3
   obtain ⟨cur, ju, mP, iW⟩ := bw.cells dT aI
   have ME : base + (off + ou) * inf.size ≤ cur.size := by
    obtain ⟨CM, e', z', p1, p2⟩ := dT
    rw [ju] at p1
    injection p1 with p1
    injection p1 with p1 _ _
    subst p1
    exact p2
   rw [arq] at ME
   have key : ∃ jZ : Array Value, jZ.size = cur.size ∧ (match (some ad : Option Addr) with | some a => (storeCells (a.add (sl * inf.size)) news.toList).run P w = .ok () (w.setRow b jZ) | none => w.setRow b jZ = w) ∧
     ∀ k, jZ[k]? = if base + off * inf.size + sl * inf.size ≤ k ∧ k < base + off * inf.size + sl * inf.size + m * inf.size then news[k - (base + off * inf.size + sl * inf.size)]? else cur[k]? := by
    rcases arP m with h0 | h0
    ·subst h0
     have hn : news = #[] := arX (by simpa using q1)
     subst hn
     refine ⟨cur, rfl, ?_, fun k => by rw [if_neg att]⟩
     show (storeCells (ad.add (sl * inf.size)) []).run P w = .ok () (w.setRow b cur)
     rw [setRow_self w b cur e (0, 0) ju]
     rfl
    ·have rP := rP att
     subst rP
     have hmul : (sl + m) * inf.size ≤ ou * inf.size := ari _ rT
     rw [arq] at hmul
     have qV := run_storeCells_at P b (base + off * inf.size + sl * inf.size) e news.toList 0 cur w ju atx q3
     rw [arR] at qV
     refine ⟨(cur.toList.take (base + off * inf.size + sl * inf.size) ++ news.toList ++ cur.toList.drop (base + off * inf.size + sl * inf.size + news.toList.length)).toArray, ?_, ?_, fun k => ?_⟩
     ·simp; omega
     ·show (storeCells ((⟨b, base + off * inf.size, none⟩ : Addr).add (sl * inf.size)) news.toList).run P w = .ok () _
      rw [Addr.add_lit]
      exact qV
     ·have hsp := qD cur.toList news.toList (base + off * inf.size + sl * inf.size) k atx
      rw [asy, hsp]
      simp only [aro, arM, q1]
   obtain ⟨jZ, c1, c2, c3⟩ := key
   have hr := lP (P := P) (w := w) t tx ty e inf d hu qB hd jT (some ad) sl ou (a.eval x) m news (w.setRow b jZ) r1 r2 rT c2
   have hmul : (sl + m) * inf.size ≤ ou * inf.size := ari _ rT
   rw [arq] at hmul
   have lL := mO (w1 := w.setRow b jZ) hc id g (g + 1) inf.size n (sl + m) e f (fun i => bif Nat.blt i sl then f (off + i) else q (i - sl)) hh b (base + off * inf.size) jZ att (fun he => absurd he att)
    (.inr ⟨base, cur, dX, ju, c1.symm⟩) (setRow_heap w b cur _ e _ ju) (by rw [c1, arq]; omega) (fun b' _ nr => setRow_other w b b' _ nr) atv rfl rfl rfl UY Np
    (fun i j pv hi hj => by
     have AU : j < inf.size := by rw [← UY i hi]; exact (At.1 hj).1
     rw [c3]
     by_cases pG : i < sl
     ·have hbl : Nat.blt i sl = true := by simpa using pG
      rw [hbl] at hj
      simp only [cond_true] at hj
      have lY : (i + 1) * inf.size ≤ sl * inf.size := ari _ pG
      rw [arq] at lY
      rw [if_neg att]
      obtain ⟨u, p1, p2⟩ := iW (off + i) j pv att hj
      refine ⟨u, ?_, p2⟩
      rw [← p1]
      congr 1
      rw [arq]
      omega
     ·have hbl : Nat.blt i sl = false := by
       cases hh' : Nat.blt i sl with
       | true => exact (pG (by simpa using hh')).elim
       | false => rfl
      rw [hbl] at hj
      simp only [cond_false] at hj
      have e1 : i * inf.size = sl * inf.size + (i - sl) * inf.size := by rw [← arq]; congr 1; omega
      have e2 : (i - sl + 1) * inf.size ≤ m * inf.size := ari _ att
      rw [arq] at e2
      rw [if_pos att]
      obtain ⟨u, p1, p2⟩ := q2 (i - sl) j pv att hj
      exact ⟨u, by rw [← p1]; congr 1; omega, p2⟩) off (hjo att)
   obtain ⟨ji, mQ⟩ := lL
   refine eG.gC (kV GQ rfl hr) hK ?_ mQ ji
   show aV _ _ _ _ _ _ _ _
   unfold aV
   rw [asb hid]
   refine ⟨⟨_, _, _, rfl⟩, aqP _, fun _ => ⟨by omega, ?_⟩⟩
   rw [bg]
   refine ⟨ad, ou, rfl, rT, fun hc0 => ?_, jZ, e, _, setRow_heap w b cur _ e _ ju, ?_⟩
   ·rw [rP hc0, Nat.zero_mul, arR]
   ·rw [c1, ard]; omega
 ·-- it grows
  obtain ⟨r1, _⟩ := q4 w (bF.refl w)
  obtain ⟨_, r2⟩ := q4 w.drew (bF.drew w)
  obtain ⟨_, s2⟩ := o4 w.drew (bF.drew w)
  rw [GQ] at s2
  have hr := n8 (P := P) (w := w) t tx ty e inf zv d hu qB hd jT hz sa sl ou (a.eval x) m uu news r1 s2 r2 att hbp hb
  have NB := grownCap_ge w (sl + m) ou e
  have lL := mO (w1 := w.drew.alloc (.cells (uu ++ news ++ Builtin.zeroCells zv.cells (grownCap w (sl + m) ou e - (sl + m))) e)) hc id g (g + 1) inf.size n (sl + m) e f (fun i => bif Nat.blt i sl then f (off + i) else q (i - sl)) hh
   w.heap.size 0 (uu ++ news ++ Builtin.zeroCells zv.cells (grownCap w (sl + m) ou e - (sl + m))) att (fun he => absurd he att) (.inl (aqP _)) (heap_alloc_new w.drew _)
   (by simp only [asD, o1, q1, arq]; omega) (fun b cD _ => heap_alloc_old w.drew _ cD) atv rfl rfl rfl UY Np
   (fun i j pv hi hj => by
    rw [ard]
    exact Dh o1 q1 o2 q2 Y9 ns i j pv hi hj) off (hjo att)
  obtain ⟨ji, mQ⟩ := lL
  refine eG.gC (kV GQ rfl hr) hK ?_ mQ ji
  show aV _ _ _ _ _ _ _ _
  unfold aV
  rw [asb hid]
  refine ⟨⟨_, _, _, rfl⟩, aqP _, fun _ => ⟨by omega, ?_⟩⟩
  rw [bg]
  refine ⟨_, grownCap w (sl + m) ou e, rfl, NB, fun _ => by simp, _, e, _, heap_alloc_new w.drew _, ?_⟩
  simp only [asD, pk, Ny, o1, q1, ard]
  have : grownCap w (sl + m) ou e * inf.size = (sl + m) * inf.size + (grownCap w (sl + m) ou e - (sl + m)) * inf.size := by rw [← arq]; congr 1; omega
  rw [arq] at this
  omega
theorem zG (hT : cd P T) (hc : Core μ h S w) (ht : ∀ t, aY μ h S w (env t) (a.tmps.getD t undef)) (args : Array Operand) (ts : Array TypeId) (hp : pop P T (.call ⟨.builtin .append, args, ts⟩) env h K) :
  eG P ⟨dst, .call ⟨.builtin .append, args, ts⟩, ty, pos, after, guard⟩ a μ h S w K := by
 obtain ⟨args⟩ := args
 obtain ⟨ts⟩ := ts
 simp only [pop] at hp
 split at hp
 ·rename_i s x t tx
  have hs := bh ht s
  have hx := bh ht x
  have main : ∀ (e sz bytes : Nat) (zero : List PV) (d : TypeDesc), T.get t = .slice e sz bytes zero → P.underlying tx = some d → ((∃ e', d = .slice e') ∨ d = .string) → mq e sz bytes (ev env s) (ev env x) h K →
    eG P ⟨dst, .call ⟨.builtin .append, #[s, x], #[t, tx]⟩, ty, pos, after, guard⟩ a μ h S w K := by
   intro e sz bytes zero d eL hxu hd hp
   have fv := (hT.slice _ _ _ _ _ eL).2.1
   unfold mq at hp
   split at hp
   ·rename_i hes
    rw [hes] at hs
    obtain ⟨_, g, ⟨hb, m, f', rfl, oB, hK⟩, vU, hgo⟩ := tc (P := P) hc _ _ hx sz fv _ hp
    exact eG.rows (BL hT hc t tx e sz bytes zero d eL hxu hd s x hs.mV m g vU hgo hb ⟨_, cM.snoc _ _ _ _ _ _ _ oB, hK⟩)
   ·rename_i id gen off len hes
    rw [hes] at hs
    split at hp
    ·rename_i g bs n e' f hg
     obtain ⟨rfl, hp⟩ := hp
     replace hp := aR hp
     obtain ⟨vx, hp⟩ := hp
     simp only [As] at vx
     obtain rfl := No vx.1
     obtain rfl := No vx.2
     obtain ⟨m, q, ⟨hb, n', f', rfl, oB, hK⟩, vU, hqo⟩ := tc (P := P) hc _ _ hx sz fv _ hp
     exact eG.rows (Di hT hc t tx e sz bytes zero d eL hxu hd s x id g off len n f (dK hg) hs m q vU hqo hb ⟨_, cM.set _ _ _ _ _ _ _ _ oB, hK⟩)
    ·exact asY
   ·exact asY
  split at hp
  ·rename_i e sz bytes zero e' bs aaW am3 eL htx
   exact main e sz bytes zero _ eL (hT.slice _ _ _ _ _ htx).1 (.inl ⟨_, rfl⟩) hp
  ·rename_i e sz bytes zero eL htx
   exact main e sz bytes zero _ eL (hT.str _ htx) (.inr rfl) hp
  ·exact asY
 ·exact asY
theorem aY.Qh {pv : PV} {v : Value} (hr : gn μ h S w pv v) : aY μ h S w pv v := by
 cases pv with
 | aU ps => exact (show False from hr).elim
 | _ => exact hr
theorem Dj (hc : Core μ h S w) (ht : ∀ t, aY μ h S w (env t) (a.tmps.getD t undef)) (fo : Operand) (args : Array Operand) (ts : Array TypeId) (hp : pop P T (.call ⟨.value fo, args, ts⟩) env h K) :
  eG P ⟨dst, .call ⟨.value fo, args, ts⟩, ty, pos, after, guard⟩ a μ h S w K := by
 have CF := bh ht fo
 simp only [pop] at hp
 split at hp
 ·rename_i f hef
  rw [hef] at CF
  replace hp := aR hp
  obtain ⟨UZ, R, ⟨⟨fn, c, OQ, BM, rZ⟩, hA⟩, hK⟩ := hp
  simp only [aqW] at UZ
  have BN := hA w (args.map a.eval) μ S hc.heap hc.ok atv (fun j pv hj => by
   rw [ark] at hj
   cases hx : args.toList[j]? with
   | none => rw [hx] at hj; cases hj
   | some x =>
    rw [hx] at hj
    injection hj with hj
    subst hj
    refine ⟨a.eval x, by rw [asr]; simp only [aro] at hx; rw [hx]; rfl, ?_⟩
    have hv := bh ht x
    have nr := UZ x (arh hx)
    cases he : ev env x with
    | aU ps => rw [he] at nr; cases nr
    | _ => rw [he] at hv; exact hv)
  intro next Q hn
  have jx : (execOp a.eval ⟨dst, .call ⟨.value fo, args, ts⟩, ty, pos, after, guard⟩).run P w = .ok (.enter f (args.map a.eval)) w := by
   simp only [execOp, resolve, CF.KI, Deferred.ofValue, invoke, callFunc, Sem.run_bind, Sem.run_pure, Result.andThen_ok, Array.append_empty, ass]
   have vV : ¬ fn.name = "runtime.NumGoroutine" := by simpa using rZ
   simp [program, Sem.run, Result.andThen, OQ, vV, BM]
  unfold Oper.wp
  rw [jx]
  show Calls P f (args.map a.eval) w _
  refine BN.mono fun e w' ⟨v, res, h', μ', S', he, hR, hv, hH, hM, hF⟩ => ?_
  subst he
  exact hn res v h' μ' S' w' (hK res h' hR) hv ⟨hH, hM⟩ hF
 ·rename_i f bp hef
  rw [hef] at CF
  replace hp := aR hp
  obtain ⟨UZ, R, ⟨⟨fn, c, OQ, BM, rZ⟩, hA⟩, hK⟩ := hp
  simp only [aqW] at UZ
  obtain ⟨vs, hvf, hvl, hvc⟩ := (show k6 μ h w f bp (a.eval fo) from CF)
  have BN := hA w (args.map a.eval ++ vs) μ S hc.heap hc.ok (by simp [hvl]) (fun j pv hj => by
   by_cases cD : j < args.size
   ·rw [art (by simpa using cD), ark] at hj
    cases hx : args.toList[j]? with
    | none => rw [hx] at hj; cases hj
    | some x =>
     rw [hx] at hj
     injection hj with hj
     subst hj
     refine ⟨a.eval x, by rw [arI (by simpa using cD), asr]; simp only [aro] at hx; rw [hx]; rfl, ?_⟩
     have hv := bh ht x
     have nr := UZ x (arh hx)
     cases he : ev env x with
     | aU ps => rw [he] at nr; cases nr
     | _ => rw [he] at hv; exact hv
   ·rw [arn (by simpa using Nat.le_of_not_lt cD), ark] at hj
    simp only [asn, arM] at hj
    cases hx : bp[j - args.size]? with
    | none => rw [hx] at hj; cases hj
    | some p =>
     rw [hx] at hj
     injection hj with hj
     subst hj
     obtain ⟨u, q1, q2⟩ := hvc _ p hx
     exact ⟨u, by rw [Array.getElem?_append_right (by simpa using Nat.le_of_not_lt cD)]; simpa using q1, q2⟩)
  intro next Q hn
  have jx : (execOp a.eval ⟨dst, .call ⟨.value fo, args, ts⟩, ty, pos, after, guard⟩).run P w = .ok (.enter f (args.map a.eval ++ vs)) w := by
   simp only [execOp, resolve, hvf, Deferred.ofValue, invoke, callFunc, Sem.run_bind, Sem.run_pure, Result.andThen_ok, ass]
   have vV : ¬ fn.name = "runtime.NumGoroutine" := by simpa using rZ
   simp [program, Sem.run, Result.andThen, OQ, vV, BM]
  unfold Oper.wp
  rw [jx]
  show Calls P f (args.map a.eval ++ vs) w _
  refine BN.mono fun e w' ⟨v, res, h', μ', S', he, hR, hv, hH, hM, hF⟩ => ?_
  subst he
  exact hn res v h' μ' S' w' (hK res h' hR) hv ⟨hH, hM⟩ hF
 ·exact asY
theorem sd : ∀ (z xs ys : List PV) (b : Bool), xM z xs ys = some b → b = true → ∀ (j : Nat) (p q : PV), xs[j]? = some p → ys[j]? = some q → p = q ∧ ((∃ k n, p = .int k n) ∨ (∃ b, p = .bool b) ∨ ∃ s, p = .str s)
 | z, xs, ys, b, hk, hb, j, p, q, hp, hq => by
  subst hb
  unfold xM at hk
  split at hk
  ·simp at hp
  ·obtain ⟨hg, c, hc, e⟩ := bD hk
   simp only [As] at hg
   obtain rfl := dq hg.1
   obtain rfl := dq hg.2
   have e := e.symm
   simp only [As, beq_iff_eq] at e
   obtain ⟨rfl, rfl⟩ := e
   cases j with
   | zero => simp at hp hq; subst hp; subst hq; exact ⟨rfl, .inl ⟨_, _, rfl⟩⟩
   | succ j => exact sd _ _ _ _ hc rfl j p q (by simpa using hp) (by simpa using hq)
  ·obtain ⟨hg, c, hc, e⟩ := bD hk
   have e := e.symm
   simp only [As, beq_iff_eq] at e
   obtain ⟨rfl, rfl⟩ := e
   cases j with
   | zero => simp at hp hq; subst hp; subst hq; exact ⟨rfl, .inr (.inl ⟨_, rfl⟩)⟩
   | succ j => exact sd _ _ _ _ hc rfl j p q (by simpa using hp) (by simpa using hq)
  ·obtain ⟨hg, c, hc, e⟩ := bD hk
   have e := e.symm
   simp only [As, beq_iff_eq] at e
   obtain ⟨rfl, rfl⟩ := e
   cases j with
   | zero => simp at hp hq; subst hp; subst hq; exact ⟨rfl, .inr (.inr ⟨_, rfl⟩)⟩
   | succ j => exact sd _ _ _ _ hc rfl j p q (by simpa using hp) (by simpa using hq)
  ·cases hk
theorem se : ∀ (z xs ys : List PV) (b : Bool), xM z xs ys = some b → ys.length = xs.length
 | z, xs, ys, b, hk => by
  unfold xM at hk
  split at hk
  ·rfl
  ·obtain ⟨_, c, hc, _⟩ := bD hk
   simp [se _ _ _ c hc]
  ·obtain ⟨_, c, hc, _⟩ := bD hk
   simp [se _ _ _ c hc]
  ·obtain ⟨_, c, hc, _⟩ := bD hk
   simp [se _ _ _ c hc]
  ·cases hk
theorem Dk (s : List UInt8) : ((ByteArray.mk ⟨s⟩) == (ByteArray.mk ⟨s⟩)) = true := by
 show ((Array.mk s) == (Array.mk s)) = true
 simp
theorem tg (n : Nat) {p : PV} {u v : Value} (hp : (∃ k n, p = .int k n) ∨ (∃ b, p = .bool b) ∨ ∃ s, p = .str s) (hu : nY p u) (hv : bm μ h S w p v) : Instr.sameBits n u v = true := by
 rcases hp with ⟨k, m, rfl⟩ | ⟨b, rfl⟩ | ⟨s, rfl⟩
 ·have hu : u = _ := hu
  have hv : aE S w (.int k m) v := hv
  cases hv; subst hu
  cases n <;> simp [Instr.sameBits]
 ·have hu : u = _ := hu
  have hv : aE S w (.bool b) v := hv
  cases hv; subst hu
  cases n <;> simp [Instr.sameBits]
 ·have hu : u = _ := hu
  have hv : aE S w (.str s) v := hv
  cases hv; subst hu
  cases n <;> simp [Instr.sameBits, Dk]
theorem MF {ti : TI} {kv kp : PV} {key ek : Value} (Nq : aY μ h S w kv key) (hs : mD kp ek) (hq : kl ti kv kp = some true) : Instr.sameBits 10000 ek key = true := by
 unfold kl at hq
 split at hq
 ·obtain ⟨hg, c, hc, e⟩ := bD hq
  simp only [As] at hg
  obtain rfl := dq hg.1
  obtain rfl := dq hg.2
  have e := e.symm
  simp only [As, beq_iff_eq] at e
  obtain ⟨rfl, _⟩ := e
  exact tg (μ := μ) (h := h) (S := S) (w := w) 10000 (.inl ⟨_, _, rfl⟩) hs Nq
 ·have hq := arG hq
  rw [beq_iff_eq] at hq
  subst hq
  exact tg (μ := μ) (h := h) (S := S) (w := w) 10000 (.inr (.inr ⟨_, rfl⟩)) hs Nq
 ·split at hq
  ·rename_i z xs ys _ _
   obtain ⟨Nv, rfl, x1, x2⟩ := (show gn μ h S w (.agg xs) key from Nq)
   obtain ⟨vys, rfl, y1, y2⟩ := (show ∃ vs : Array Value, ek = .agg vs ∧ vs.size = ys.length ∧ ∀ (j : Nat) (pv : PV), ys[j]? = some pv → ∃ u : Value, vs[j]? = some u ∧ nY pv u from hs)
   have hl := se _ _ _ _ hq
   rw [show 10000 = 9999 + 1 from rfl, Instr.sameBits]
   rw [As]
   refine ⟨by rw [beq_iff_eq, x1, y1, hl], aqW.2 (fun p hp => ?_)⟩
   obtain ⟨j, hj, rfl⟩ := arW.1 hp
   have Ef := hj
   rw [List.length_zip, arM, arM] at Ef
   have hjx : j < xs.length := by omega
   have hjy : j < ys.length := by omega
   obtain ⟨e1, e2⟩ := sd _ _ _ _ hq rfl j _ _ (Of hjx) (Of hjy)
   obtain ⟨u, hu, sL⟩ := y2 j _ (Of hjy)
   obtain ⟨v, hv, lx⟩ := x2 j _ (Of hjx)
   rw [← e1] at sL
   have := tg 9999 e2 sL lx
   rw [List.getElem_zip]
   simp only [Array.getElem_toList]
   have h1 : vys[j]'att = u := by rw [arl att] at hu; exact arG hu
   have h2 : Nv[j]'att = v := by rw [arl att] at hv; exact arG hv
   rw [h1, h2]
   exact this
  ·cases hq
 ·cases hq
theorem MG {w1 : World} (hc : Core μ h S w) (id g sz n n1 : Nat) (e : TypeId) (f f1 : Nat → List PV) (hh : h[id]? = some (ak.row g sz n e f)) (b base : Nat) (es : Array MapEntry) (c : Nat) (dX : μ id = some (b, base))
  (hb : w.heap[b]? = some (.map es c)) (MH : Array MapEntry) (c1 : Nat) (hw : w1.heap[b]? = some (.map MH c1)) (iu : ∀ b', b' ≠ b → w1.heap[b']? = w.heap[b']?) (vG : w1.heap.size = w.heap.size) (hos : w1.os = w.os)
  (KO : w1.tape = w.tape) (KP : w1.output = w.output) (hl : ∀ i, i < n1 → (f1 i).length = sz)
  (hr : MH.size = n1 ∧ ∀ i, i < n1 → ∃ (kp vp : PV) (en : MapEntry), f1 i = [kp, vp] ∧ ir kp = true ∧ ir vp = true ∧ MH[i]? = some en ∧ mD kp en.key ∧ mD vp en.val) :
  Fr μ h S w μ (h.set id (.row (g + 1) sz n1 e f1)) S w1 ∧ Core μ (h.set id (.row (g + 1) sz n1 e f1)) S w1 := by
 have hid : id < h.length := (At.1 hh).1
 have gZ : (h.set id (ak.row (g + 1) sz n1 e f1))[id]? = some (ak.row (g + 1) sz n1 e f1) := by simp [hid]
 have bR : ∀ j, j ≠ id → (h.set id (ak.row (g + 1) sz n1 e f1))[j]? = h[j]? := fun j hj => by rw [arF (asa hj)]
 have hvb : w8 μ h b := ⟨id, g, sz, n, e, f, base, hh, dX⟩
 have vI : bH μ h b := .inl hvb
 have uv : ∀ b', w8 μ (h.set id (ak.row (g + 1) sz n1 e f1)) b' → w8 μ h b' := fun b' kr => by
  obtain ⟨j, gj, lK, nj, ej, fj, n7, hj, hm⟩ := kr
  by_cases gH : j = id
  ·subst gH; exact ⟨j, g, sz, n, e, f, n7, hh, hm⟩
  ·rw [bR j gH] at hj; exact ⟨j, gj, lK, nj, ej, fj, n7, hj, hm⟩
 have lZ : ∀ j x y b, cA (h.set id (ak.row (g + 1) sz n1 e f1)) j x y b → cA h j x y b := fun j x y b ⟨gj, lK, nj, ej, fj, bs, n', e', f', F', q1, q2, q3, q4⟩ => by
  by_cases gH : j = id
  ·subst gH
   rw [gZ] at q1
   injection q1 with q1
   injection q1 with e1 e2 e3 e4 e5
   subst e3 e5
   obtain ⟨kp, vp, en, r1, r2, r3, _⟩ := hr.2 x q2
   rw [r1] at q3
   match y, q3 with
   | 0, q3 => simp at q3; rw [q3] at r2; cases r2
   | 1, q3 => simp at q3; rw [q3] at r3; cases r3
   | y + 2, q3 => simp at q3
  ·rw [bR j gH] at q1
   exact atq
 have kh : ∀ b', bH μ (h.set id (ak.row (g + 1) sz n1 e f1)) b' → bH μ h b' := fun b' kr => by
  rcases kr with kr | ⟨x, y, z, kr⟩
  ·exact .inl (uv _ kr)
  ·exact .inr ⟨x, y, z, lZ _ _ _ _ kr⟩
 have vH : ∀ j x y b', cA h j x y b' → w1.heap[b']? = w.heap[b']? := fun j x y b' hx => iu b' (by
  rintro rfl
  exact hc.ok.hv b' hvb j x y hx)
 have ji : Fr μ h S w μ (h.set id (.row (g + 1) sz n1 e f1)) S w1 := by
  refine ⟨by simp, fun b' _ w4 => iu b' (fun he => w4 (he ▸ vI)), fun _ hb => hb, fun _ hb => .inl hb, fun b' kr => .inl (kh b' kr), by omega, hos, KO, KP, fun j gj lK nj ej fj hj => ?_, fun j hj => ?_, fun b' k _ dT => ?_, fun j gj lK nj ej fj b' jL hj hm kY => ?_, fun b' j x y hx kY => let ⟨es2, c2, q⟩ := kY; ⟨es2, c2, (vH j x y b' hx).trans q⟩⟩
  ·by_cases gH : j = id
   ·subst gH
    rw [hh] at hj
    injection hj with hj
    injection hj with e1 e2 e3 e4 e5
    subst e1 e2 e3 e4 e5
    rw [gZ]
    exact ⟨by omega, fun he => absurd he att⟩
   ·rw [bR j gH, hj]
    exact ato
  ·have gH : j ≠ id := by rintro rfl; rw [hh] at hj; cases hj
   rw [bR j gH]; exact hj
  ·have nr : b' ≠ b := by
    rintro rfl
    exact dT.qw ⟨es, c, hb⟩
   exact iq.of_same (iu b' nr) dT
  ·have hex : ∃ g' bs n' e' f', (h.set id (ak.row (g + 1) sz n1 e f1))[j]? = some (ak.row g' bs n' e' f') := by
    by_cases gH : j = id
    ·subst gH; exact ⟨_, _, _, _, _, gZ⟩
    ·exact ⟨_, _, _, _, _, (bR j gH).trans hj⟩
   refine ⟨?_, .inr ⟨hex, hm⟩⟩
   by_cases Ei : b' = b
   ·subst Ei; exact ⟨MH, c1, hw⟩
   ·obtain ⟨es2, c2, q⟩ := kY
    exact ⟨es2, c2, (iu b' Ei).trans q⟩
 refine ⟨ji, ⟨fun j gj lK nj ej fj hj => ?_, ⟨fun b hb => hc.ok.apart b (kh b hb), fun b hb => by rw [vG]; exact hc.ok.lt b (kh b hb), fun b hb => by rw [vG]; exact hc.ok.slt b hb, ?_, hc.ok.vJ ji, fun b hb x y z hx => hc.ok.hv b (uv b hb) x y z (lZ _ _ _ _ hx), fun b _ _ _ _ _ _ hx hy => hc.ok.hh b _ _ _ _ _ _ (lZ _ _ _ _ hx) (lZ _ _ _ _ hy)⟩⟩⟩
 ·by_cases gH : j = id
  ·subst gH
   rw [gZ] at hj
   injection hj with hj
   injection hj with e1 e2 e3 e4 e5
   subst e1 e2 e3 e4 e5
   refine ⟨hl, ?_⟩
   rw [dX]
   exact ⟨_, hw, hr⟩
  ·rw [bR j gH] at hj
   obtain ⟨h1, h2⟩ := hc.heap j gj lK nj ej fj hj
   refine ⟨h1, ?_⟩
   cases hm : μ j with
   | none => rw [hm] at h2; exact h2
   | some p =>
    obtain ⟨b', jL⟩ := p
    rw [hm] at h2
    obtain ⟨o, q1, q2⟩ := h2
    have Ei : b' ≠ b := by
     rintro rfl
     exact gH (hc.ok.inj j id _ _ _ _ _ _ _ _ _ _ _ _ _ hj hh hm dX)
    exact ⟨o, (iu b' Ei).trans q1, q2.mono (fun i y pv v hi hy hr => hr.fr ji hc.ok (fun bs n' e' f' F' he b2 nv => vH j i y b2 ⟨_, _, _, _, _, _, _, _, _, _, hj, hi, he ▸ hy, nv⟩))⟩
 ·intro i j gi NC ni ei fi gj lK nj ej fj b' o o' hi hj lY lj
  have back : ∀ k gk szk nk ek fk, (h.set id (ak.row (g + 1) sz n1 e f1))[k]? = some (ak.row gk szk nk ek fk) → ∃ g' bs n' e' f', h[k]? = some (ak.row g' bs n' e' f') := fun k gk szk nk ek fk hk => by
   by_cases sT : k = id
   ·subst sT; exact ⟨_, _, _, _, _, hh⟩
   ·rw [bR k sT] at hk; exact ⟨_, _, _, _, _, hk⟩
  obtain ⟨_, _, _, _, _, h1⟩ := back _ _ _ _ _ _ hi
  obtain ⟨_, _, _, _, _, h2⟩ := back _ _ _ _ _ _ hj
  exact hc.ok.inj i j _ _ _ _ _ _ _ _ _ _ _ _ _ h1 h2 lY lj
theorem GR {w1 : World} (hc : Core μ h S w) (ha : bF w w1) (b : Nat) (hb : w.heap.size ≤ b) (lk : b < w1.heap.size) : Fr μ h S w μ h (fun x => S x ∨ x = b) w1 ∧ Core μ h (fun x => S x ∨ x = b) w1 := by
 have ji : Fr μ h S w μ h (fun x => S x ∨ x = b) w1 := by
  refine ⟨aqP _, fun b' kr _ => ha.blocks b' kr, fun _ hs => .inl hs, fun b' kr => ?_, fun _ ho => .inl ho, ha.size, ha.os, ha.tape, ha.output, fun j gj lK nj ej fj hj => ?_, fun _ hd => hd, fun b' k ho dT => ?_, fun j gj lK nj ej fj b' jL hj hm kY => ?_, fun b' j x y hx kY => let ⟨es2, c2, q⟩ := kY; ⟨es2, c2, (ha.blocks b' (hc.ok.lt b' (.inr ⟨j, x, y, hx⟩))).trans q⟩⟩
  ·rcases kr with kr | rfl
   ·exact .inl kr
   ·exact .inr (.inr hb)
  ·rw [hj]; exact ⟨aqP _, fun _ => ⟨rfl, rfl, rfl, rfl⟩⟩
  ·exact iq.of_same (ha.blocks b' (hc.ok.lt b' ho)) dT
  ·obtain ⟨es, c, q⟩ := kY
   exact ⟨⟨es, c, (ha.blocks b' (hc.ok.lt b' (.inl ⟨_, _, _, _, _, _, _, hj, hm⟩))).trans q⟩, .inr ⟨⟨_, _, _, _, _, hj⟩, hm⟩⟩
 refine ⟨ji, ⟨fun j gj lK nj ej fj hj => ?_, ⟨fun b' ho hs => ?_, fun b' ho => ars (hc.ok.lt b' ho) ha.size, fun b' hs => ?_, hc.ok.inj, hc.ok.vJ ji, hc.ok.hv, hc.ok.hh⟩⟩⟩
 ·obtain ⟨h1, h2⟩ := hc.heap j gj lK nj ej fj hj
  refine ⟨h1, ?_⟩
  cases hm : μ j with
  | none => rw [hm] at h2; exact h2
  | some p =>
   obtain ⟨b', jL⟩ := p
   rw [hm] at h2
   obtain ⟨o, q1, q2⟩ := h2
   exact ⟨o, (ha.blocks b' (hc.ok.lt b' (.inl ⟨_, _, _, _, _, _, _, hj, hm⟩))).trans q1, q2.mono (fun i y pv v hi hy hr => hr.fr ji hc.ok (fun bs n' e' f' F' he b2 nv => ha.blocks b2 (hc.ok.lt b2 (.inr ⟨j, i, y, _, _, _, _, _, _, _, _, _, _, hj, hi, he ▸ hy, nv⟩))))⟩
 ·rcases hs with hs | rfl
  ·exact hc.ok.apart b' ho hs
  ·exact absurd (hc.ok.lt b' ho) att
 ·rcases hs with hs | rfl
  ·exact ars (hc.ok.slt b' hs) ha.size
  ·exact lk
theorem vW (hT : cd P T) (hc : Core μ h S w) (ht : ∀ t, aY μ h S w (env t) (a.tmps.getD t undef)) (s d : Nat) (x : Operand) (hp : pop P T (.convert s d x) env h K) : eG P ⟨dst, .convert s d x, ty, pos, after, guard⟩ a μ h S w K := by
 simp only [pop] at hp
 split at hp
 ·rename_i e sz KH z b hs hd hx
  split at hp
  ·rename_i he
   obtain ⟨f', oB, hK⟩ := hp
   have hv := bh ht x
   rw [hx] at hv
   have jx := Lib.run_convert_string_bytes (P := P) w s d e ⟨⟨b⟩⟩ (hT.str _ hs) (hT.slice _ _ _ _ _ hd).1 (hT.int _ _ he)
   have hag : bF w (Lib.bytesWorld w e ⟨⟨b⟩⟩) := by
    have := Lib.bytesWorld_below w e ⟨⟨b⟩⟩
    exact ⟨this.block, this.size, this.os, this.tape, this.output⟩
   obtain ⟨ji, mQ⟩ := GR hc hag w.heap.size (aqP _) (by rw [Lib.bytesWorld_size]; omega)
   refine eG.gC (val := .slice (some ⟨w.heap.size, 0, none⟩) b.length (grownCap w b.length 0 e)) (bY rfl ?_) hK ?_ mQ ji
   ·rw [hv.j9]
    exact jx
   ·show aE _ _ (.eu 1 b.length f') _
    refine .eu 1 b.length f' w.heap.size 0 _ (fun i _ => .int .u8 (b.getD i 0).toNat) (.inr rfl) (fun i hi => by rw [oB i hi]; rfl) ?_ (fun i j pv hi hj => ?_) (fun i j pv hi hj => ?_)
    ·have := grownCap_ge w b.length 0 e; omega
    ·rw [oB i hi] at hj
     have mB : j = 0 := by
      have := (At.1 hj).1
      simpa using this
     subst mB
     have := Lib.bytesWorld_cell w e ⟨⟨b⟩⟩ i (by show i < b.length; exact hi)
     rw [show 0 + i * 1 + 0 = i by omega]
     exact this
    ·rw [oB i hi] at hj
     have mB : j = 0 := by
      have := (At.1 hj).1
      simpa using this
     subst mB
     simp at hj
     subst hj
     exact .int _ _
  ·exact asY
 ·exact .mW hc (ky hT hc.heap ht hp)
theorem xk (hT : cd P T) (hc : Core μ h S w) (t : Nat) (hp : pop P T (.makeMap t none) env h K) : eG P ⟨dst, .makeMap t none, ty, pos, after, guard⟩ a μ h S w K := by
 simp only [pop] at hp
 split at hp
 ·rename_i kt et zv eL
  obtain ⟨f', hK⟩ := hp
  obtain ⟨ji, mQ⟩ := xR (w1 := w.alloc (.map #[] 0)) hc 2 0 t f' (some (w.heap.size, 0)) ⟨aqP _, _, heap_alloc_new w _, rfl, fun i hi => absurd hi (arK _)⟩ (jO w _) (fun i hi => absurd hi (arK _)) (fun i j pv hi => absurd hi (arK _))
  refine eG.gC (val := .map (some w.heap.size)) (bY rfl rfl) hK ?_ mQ ji
  show ew _ _ _ _ _
  unfold ew
  rw [arn (aqP _), arS]
  exact ⟨⟨_, rfl⟩, w.heap.size, 0, bg _ _ _, ⟨_, _, heap_alloc_new w _⟩, rfl⟩
 ·exact asY
theorem sf : ∀ (z xs ys : List PV) (b : Bool), xM z xs ys = some b → xs.all oX = true ∧ xs.all jN = true
 | z, xs, ys, b, hk => by
  unfold xM at hk
  split at hk
  ·exact ⟨rfl, rfl⟩
  ·obtain ⟨_, c, hc, _⟩ := bD hk
   obtain ⟨h1, h2⟩ := sf _ _ _ c hc
   simp [oX, jN, h1, h2]
  ·obtain ⟨_, c, hc, _⟩ := bD hk
   obtain ⟨h1, h2⟩ := sf _ _ _ c hc
   simp [oX, jN, h1, h2]
  ·obtain ⟨_, c, hc, _⟩ := bD hk
   obtain ⟨h1, h2⟩ := sf _ _ _ c hc
   simp [oX, jN, h1, h2]
  ·cases hk
theorem MI {ti : TI} {kv kp : PV} {q : Bool} (h0 : kl ti kv kp = some q) : ir kv = true ∧ storable kv = true := by
 unfold kl at h0
 split at h0
 ·exact ⟨rfl, rfl⟩
 ·exact ⟨rfl, rfl⟩
 ·split at h0
  ·exact sf _ _ _ _ h0
  ·cases h0
 ·cases h0
theorem sg {pv : PV} {v : Value} (hs : oX pv = true) (hj : jN pv = true) (hv : bm μ h S w pv v) : nY pv v := by
 cases pv with
 | int k n => have hv : aE S w (.int k n) v := hv; cases hv; rfl
 | bool b => have hv : aE S w (.bool b) v := hv; cases hv; rfl
 | str s => have hv : aE S w (.str s) v := hv; cases hv; rfl
 | fO => cases hj
 | _ => cases hs
theorem EE {pv : PV} {v : Value} (hs : ir pv = true) (hj : storable pv = true) (hv : aY μ h S w pv v) : mD pv v := by
 cases pv with
 | agg cs =>
  obtain ⟨vs, rfl, h1, h2⟩ := (show gn μ h S w (.agg cs) v from hv)
  refine ⟨vs, rfl, h1, fun j pv Ef => ?_⟩
  obtain ⟨u, q1, q2⟩ := h2 j pv Ef
  have hm := arh Ef
  exact ⟨u, q1, sg (aqW.1 hs pv hm) (aqW.1 hj pv hm) q2⟩
 | int k n => exact sg (μ := μ) (h := h) (S := S) (w := w) (pv := .int k n) hs hj hv
 | bool b => exact sg (μ := μ) (h := h) (S := S) (w := w) (pv := .bool b) hs hj hv
 | str s => exact sg (μ := μ) (h := h) (S := S) (w := w) (pv := .str s) hs hj hv
 | fO => cases hj
 | _ => cases hs
theorem zH {Dl new : Value} {w' : World} (h1 : Instr.sameBits 10000 Dl new = true) : (Instr.keyThatStays Dl new).run P w' = .ok new w' := by
 simp [Instr.keyThatStays, h1]
theorem GS {w : World} {b : Nat} {o o' : Obj} (hb : w.heap[b]? = some o) : ({ w with heap := w.heap.setIfInBounds b o' } : World).heap[b]? = some o' := by
 have := (aqT.1 hb).1
 simp [this]
theorem Dm {w : World} {b b' : Nat} {o' : Obj} (hb : b' ≠ b) : ({ w with heap := w.heap.setIfInBounds b o' } : World).heap[b']? = w.heap[b']? := by
 simp [Array.getElem?_setIfInBounds, asa hb]
theorem uw (hT : cd P T) (hc : Core μ h S w) (ht : ∀ t, aY μ h S w (env t) (a.tmps.getD t undef)) (t : Nat) (m k x : Operand) (hp : pop P T (.mapUpdate t m k x) env h K) :
  eG P ⟨dst, .mapUpdate t m k x, ty, pos, after, guard⟩ a μ h S w K := by
 have hm := bh ht m
 have hk := bh ht k
 have hx := bh ht x
 simp only [pop] at hp
 split at hp
 ·rename_i kt et zv id eL hem
  rw [hem] at hm
  split at hp
  ·rename_i g sz n e f xN
   replace hp := aR (br (br hp))
   obtain ⟨mi, n', f', hup, hK⟩ := hp
   simp only [As] at mi
   obtain ⟨⟨⟨hkk, TY⟩, aqu⟩, aqv⟩ := mi
   obtain rfl := (No aqv)
   obtain ⟨hu, inf, z, jT, hz, fv, TZ, qV⟩ := hT.map _ _ _ _ eL
   have hh := dK xN
   obtain ⟨bl, base, es, c, dX, ex, hb, hn, CL⟩ := vq hc.heap hh hm.yZ
   obtain ⟨q0, h0⟩ := Option.isSome_iff_exists.1 hkk
   obtain ⟨d, s, hd, Zw, KN⟩ := Eg hT hk h0
   obtain ⟨wH, aqw⟩ := MI h0
   have hkr := EE wH aqw hk
   have hvr := EE TY aqu hx
   have rR : ∀ m, m ≤ n → Bp (T.get kt) f m (ev env k) → ∀ j, j < m → ∀ y : MapEntry, es.toList[j]? = some y → oW P kt d s (a.eval k) y.key false := fun m hmn hM j hj y hy => by
    obtain ⟨kp, vp, h1, h2⟩ := hM j hj
    obtain ⟨kp', vp', en, h3, _, _, h4, h5, _⟩ := CL j att
    rw [h1] at h3
    injection h3 with e1 e2
    subst e1
    have : y = en := by rw [aro] at hy; exact arG (hy.symm.trans h4)
    subst this
    exact KN kp y.key false h5 h2
   have main : ∀ (MH : Array MapEntry) (c1 : Nat), (Instr.mapUpdate t (.map (some bl)) (a.eval k) (a.eval x)).run P w = .ok () { w with heap := w.heap.setIfInBounds bl (.map MH c1) } →
     (MH.size = n' ∧ ∀ i, i < n' → ∃ (kp vp : PV) (en : MapEntry), f' i = [kp, vp] ∧ ir kp = true ∧ ir vp = true ∧ MH[i]? = some en ∧ mD kp en.key ∧ mD vp en.val) →
     eG P ⟨dst, .mapUpdate t m k x, ty, pos, after, guard⟩ a μ h S w K := by
    intro MH c1 jx hr
    obtain ⟨ji, mQ⟩ := MG (w1 := { w with heap := w.heap.setIfInBounds bl (.map MH c1) }) hc id g 2 n n' e f f' hh bl base es c dX hb MH c1 (GS hb) (fun b' kr => Dm kr) atv rfl rfl rfl
     (fun i hi => by obtain ⟨kp, vp, en, h1, _⟩ := hr.2 i hi; rw [h1]; rfl) hr
    refine eG.Ej ?_ hK mQ ji
    have e1 : (execOp a.eval ⟨dst, .mapUpdate t m k x, ty, pos, after, guard⟩) = (do Instr.mapUpdate t (a.eval m) (a.eval k) (a.eval x); pure .skip : Sem Next) := rfl
    rw [e1, ex]
    simp only [Sem.run_bind, jx, Result.andThen, Sem.run_pure]
   rcases hup with ⟨i0, r, ⟨hi0, hM, kp0, OW, hq0⟩, hn1, EF, MJ⟩ | ⟨hM, hn1, EF, MJ⟩
   ·obtain ⟨kp', vp', en, h3, h8, h6, h4, h5, h7⟩ := CL i0 hi0
    rw [OW] at h3
    injection h3 with e1 e2
    injection e2 with e2 _
    subst e1 e2
    have vC := vu (P := P) (w' := w) hd es.toList i0 en (rR i0 att hM) (by rw [aro]; exact h4) (KN kp0 en.key true h5 hq0)
    have am4 := zH (P := P) (w' := w) (MF hk h5 hq0)
    refine main (es.modify i0 fun e => { e with key := a.eval k, val := a.eval x }) c ?_ ⟨by simp [hn, hn1], fun i hi => ?_⟩
    ·simp [Instr.mapUpdate, run_underlying hu, run_getObj_map w bl es c hb, Zw, vC, h4, am4, MapKept.run_setObj_map _ hb]
    ·by_cases G7 : i = i0
     ·subst G7
      refine ⟨_, _, { en with key := a.eval k, val := a.eval x }, EF, wH, TY, ?_, hkr, hvr⟩
      rw [arU, if_pos rfl, h4]
      rfl
     ·obtain ⟨kp1, vp1, en1, g1, g2, g3, g4, g5, g6⟩ := CL i att
      refine ⟨kp1, vp1, en1, by rw [MJ i att G7, g1], g2, g3, ?_, g5, g6⟩
      rw [arU, if_neg (asa G7), g4]
   ·have vC := rN (P := P) (w' := w) hd es.toList (fun j y hy => rR n (aqP _) hM j (by
      have := (At.1 hy).1
      rw [← hn]; simpa using this) y hy)
    refine main (es.push { key := a.eval k, val := a.eval x, born := c }) (c + 1) ?_ ⟨by simp [hn, hn1], fun i hi => ?_⟩
    ·simp [Instr.mapUpdate, run_underlying hu, run_getObj_map w bl es c hb, Zw, vC, MapKept.run_setObj_map _ hb]
    ·by_cases G7 : i = n
     ·subst G7
      refine ⟨_, _, { key := a.eval k, val := a.eval x, born := c }, EF, wH, TY, ?_, hkr, hvr⟩
      rw [← hn]
      simp
     ·obtain ⟨kp1, vp1, en1, g1, g2, g3, g4, g5, g6⟩ := CL i att
      refine ⟨kp1, vp1, en1, by rw [MJ i att, g1], g2, g3, ?_, g5, g6⟩
      rw [Array.getElem?_push, if_neg att, g4]
  ·exact asY
 ·exact asY
theorem zI (hT : cd P T) (hc : Core μ h S w) (ht : ∀ t, aY μ h S w (env t) (a.tmps.getD t undef)) (bo : BinOp) (t t' : TypeId) (x y : Operand) (hp : pop P T (.binOp bo t x y t') env h K) :
  eG P ⟨dst, .binOp bo t x y t', ty, pos, after, guard⟩ a μ h S w K := by
 simp only [pop] at hp
 split at hp
 ·rename_i e sz KH z bs n f eL hx hy
  obtain ⟨h1, h2⟩ := hp
  have rx := bh ht x
  have ry := bh ht y
  rw [hx] at rx
  rw [hy] at ry
  have rx : aE S w (.eu bs n f) (a.eval x) := rx
  have ry : aE S w .bf (a.eval y) := ry
  have ey : a.eval y = .slice none 0 0 := by
   generalize a.eval y = v at ry
   cases ry
   rfl
  obtain ⟨ad, c, ex, hn⟩ : ∃ ad c, a.eval x = .slice ad n c ∧ (ad = none → n = 0) := by
   generalize a.eval x = v at rx
   cases rx with
   | lV _ _ ad c => exact ⟨ad, c, rfl, fun _ => rfl⟩
   | eu _ _ _ b off c vf _ _ _ _ _ => exact ⟨_, c, rfl, fun h0 => by cases h0⟩
  obtain ⟨hu, _⟩ := hT.slice _ _ _ _ _ eL
  have hg : eqGuard .eql t x y (a.eval x) (a.eval y) = pure () := by rw [ex]; apply eqGuard_at_slice
  have hK : K (.bool ad.isNone) h := by
   cases ad with
   | none => exact h1 (hn rfl)
   | some _ => exact h2
  refine .mW hc (.mk (v := .bool ad.isNone) hK (aE.bool _) fun w' _ => tK (Ed hg ?_))
  rw [ex, ey]
  first | exact Lib.run_eql_slice_nil _ _ _ _ _ _ _ _ hu | exact run_eql_slice_nil _ _ _ _ _ _ hu
 ·exact .mW hc (ky hT hc.heap ht hp)
theorem zJ {i j : Nat} (h : Nat.blt i j = false) : j ≤ i := by
 rcases arO i j with hl | hl
 ·have : Nat.blt i j = true := by simpa using hl
  rw [this] at h; cases h
 ·exact hl
theorem xX {s x : Operand} {t tx : TypeId} {sv xv v' : Value} {w' : World} (hs : a.eval s = sv) (hx : a.eval x = xv) (hr : (Builtin.copy_ #[t, tx] ty #[sv, xv]).run P w = .ok v' w') :
  (execOp a.eval ⟨dst, .call ⟨.builtin .copy, #[s, x], #[t, tx]⟩, ty, pos, after, guard⟩).run P w = .ok (.value v') w' := by
 simp only [execOp, resolve, invoke, builtin, Sem.run_bind, Sem.run_pure, Result.andThen_ok, asx, adr, aqS, hs, hx, hr]
theorem BO (t tx ty e : TypeId) (i : TypeInfo) (ht : P.underlying t = some (.slice e)) (hi : P.info? e = some i)
  (sa : Option Addr) (ll ta : Nat) (xv : Value) (m : Nat) (news : Array Value) (w' : World) (hlen : (Builtin.lenOf xv).run P w = .ok m w) (hfc : (Builtin.firstCells i.size m xv).run P w = .ok news w) (hle : m ≤ ll)
  (qV : match sa with | some a => (storeCells a news.toList).run P w = .ok () w' | none => w' = w) :
  (Builtin.copy_ #[t, tx] ty #[.slice sa ll ta, xv]).run P w = .ok (.int .i64 m) w' := by
 have hm : Nat.min m ll = m := Nat.min_eq_left hle
 cases sa with
 | none =>
  have qV : w' = w := qV
  subst qV
  simp [Builtin.copy_, run_underlying ht, sizeOf, typeInfo, hi, hlen, hm, hfc, goInt]
 | some a =>
  have qV : (storeCells a news.toList).run P w = .ok () w' := qV
  simp [Builtin.copy_, run_underlying ht, sizeOf, typeInfo, hi, hlen, hm, hfc, qV, goInt]
theorem MK (hT : cd P T) (hc : Core μ h S w) (t tx e sz bytes : Nat) (zero : List PV) (eL : T.get t = .slice e sz bytes zero)
  (s x : Operand) (id g off len n : Nat) (f : Nat → List PV) (hh : h[id]? = some (ak.row g sz n e f)) (hs : aY μ h S w (.own id g off len) (a.eval s)) (m : Nat) (q : Nat → List PV) (vU : Src P μ h S w (a.eval x) sz m q) (hqo : ∀ (i j : Nat) (pv : PV), i < m → (q i)[j]? = some pv → eC pv = false)
  (hb : m ≤ len) (hK : ∃ h2, cM (h.set id (.row g sz n e (Qi f off m q))) h2 ∧ K (.int .i64 m) h2) :
  eG P ⟨dst, .call ⟨.builtin .copy, #[s, x], #[t, tx]⟩, ty, pos, after, guard⟩ a μ h S w K := by
 obtain ⟨hu, fv, inf, zv, jT, lX, T0, hz, Ny, NA, KM⟩ := hT.slice _ _ _ _ _ eL
 subst lX T0
 have hid : id < h.length := (At.1 hh).1
 obtain ⟨ns, news, q1, q2, q3, q4⟩ := vU
 have sR := hs.nI
 unfold aV at sR
 rw [hh] at sR
 obtain ⟨⟨sa, sl, ou, GQ⟩, _, sR⟩ := sR
 obtain ⟨hle, sR⟩ := sR rfl
 obtain ⟨Y9, uu, o1, o2, o3, o4⟩ := tb (P := P) hc id g off len inf.size n e f hh _ hs fv
 have KL : sl = len := by
  obtain ⟨e1, _⟩ := o4 w (bF.refl w)
  rw [GQ] at e1
  simp [Builtin.lenOf] at e1
  exact e1
 subst KL
 obtain ⟨hl, aI⟩ := hc.heap id g _ n e f hh
 obtain ⟨r1, r2⟩ := q4 w (bF.refl w)
 refine eG.rows ?_
 rcases arP m with h0 | h0
 ·subst h0
  have hn : news = #[] := arX (by simpa using q1)
  subst hn
  have hr := BO (P := P) (w := w) t tx ty e inf hu jT sa sl ou (a.eval x) 0 #[] w r1 r2 (asm _) (by cases sa <;> rfl)
  obtain ⟨h2, he, hK⟩ := hK
  refine eG.gC (h' := h) (μ' := μ) (S' := S) (xX GQ rfl hr) ⟨h2, ?_, hK⟩ (.int _ _) hc Fr.refl
  have e0 : Qi f off 0 q = f := by
   funext i
   unfold Qi
   cases w4 : Nat.blt i off
   ·rfl
   ·rfl
  rw [e0] at he
  have es : h.set id (ak.row g inf.size n e f) = h := by
   refine List.ext_getElem? fun j => ?_
   rw [asv]
   by_cases hj : id = j
   ·subst hj; rw [if_pos rfl, if_pos hid, hh]
   ·rw [if_neg hj]
  rwa [es] at he
 ·cases dX : μ id with
  | none =>
   rw [dX] at sR
   rw [GQ] at sR
   injection sR with e1 e2 e3
   omega
  | some p =>
   obtain ⟨b, base⟩ := p
   rw [dX] at sR aI
   obtain ⟨ad, cap, hv, Oi, rP, dT⟩ := sR
   have Np : ∀ b base, μ id = some (b, base) → ¬ my w b := fun b' jL Qj => by
    rw [dX] at Qj
    injection Qj with Qj
    injection Qj with h1 h2
    subst h1
    exact dT.qw
   rw [GQ] at hv
   injection hv with e1 e2 e3
   subst e1 e3
   obtain ⟨cur, ju, mP, iW⟩ := bw.cells dT aI
   have ME : base + (off + ou) * inf.size ≤ cur.size := by
    obtain ⟨CM, e', z', p1, p2⟩ := dT
    rw [ju] at p1
    injection p1 with p1
    injection p1 with p1 _ _
    subst p1
    exact p2
   rw [arq] at ME
   have rP := rP att
   subst rP
   have hmul : m * inf.size ≤ ou * inf.size := ari _ att
   have qV := run_storeCells_at P b (base + off * inf.size) e news.toList 0 cur w ju atx q3
   rw [arR] at qV
   generalize hc1 : (cur.toList.take (base + off * inf.size) ++ news.toList ++ cur.toList.drop (base + off * inf.size + news.toList.length)).toArray = jZ at qV
   have c1 : jZ.size = cur.size := by subst hc1; simp; omega
   have c3 : ∀ k : Nat, jZ[k]? = if base + off * inf.size ≤ k ∧ k < base + off * inf.size + m * inf.size then news[k - (base + off * inf.size)]? else cur[k]? := fun k => by
    subst hc1
    have hsp := qD cur.toList news.toList (base + off * inf.size) k atx
    rw [asy, hsp]
    simp only [aro, arM, q1]
   have hr := BO (P := P) (w := w) t tx ty e inf hu jT (some ⟨b, base + off * inf.size, none⟩) sl ou (a.eval x) m news (w.setRow b jZ) r1 r2 hb qV
   have UY : ∀ i, i < n → (Qi f off m q i).length = inf.size := fun i hi => by
    unfold Qi
    cases lk : Nat.blt i off
    ·cases nv : Nat.blt i (off + m)
     ·exact hl i hi
     ·have ML := zJ lk
      have MM : i < off + m := by simpa using nv
      exact ns _ att
    ·exact hl i hi
   have lL := mO (w1 := w.setRow b jZ) hc id g g inf.size n n e f (Qi f off m q) hh b base jZ (aqP _) (fun _ => ⟨dX, rfl⟩)
    (.inr ⟨base, cur, dX, ju, c1.symm⟩) (setRow_heap w b cur _ e _ ju) (by rw [c1]; exact mP) (fun b' _ nr => setRow_other w b b' _ nr) atv rfl rfl rfl UY Np
    (fun i j pv hi hj => by
     have AU : j < inf.size := by rw [← UY i hi]; exact (At.1 hj).1
     rw [c3]
     have e1 : i * inf.size + inf.size = (i + 1) * inf.size := by rw [arq, Nat.one_mul]
     unfold Qi at hj
     cases lk : Nat.blt i off
     ·rw [lk] at hj
      have ML : off ≤ i := zJ lk
      have e2 : off * inf.size ≤ i * inf.size := ari _ ML
      cases nv : Nat.blt i (off + m)
      ·rw [nv] at hj
       simp only [cond_false] at hj
       have MM : off + m ≤ i := zJ nv
       have e3 : (off + m) * inf.size ≤ i * inf.size := ari _ MM
       rw [arq] at e3
       rw [if_neg att]
       exact iW i j pv hi hj
      ·rw [nv] at hj
       simp only [cond_false, cond_true] at hj
       have MM : i < off + m := by simpa using nv
       have e3 : (i + 1) * inf.size ≤ (off + m) * inf.size := ari _ MM
       have e5 : (off + m) * inf.size = off * inf.size + m * inf.size := arq _ _ _
       rw [if_pos att]
       obtain ⟨u, p1, p2⟩ := q2 (i - off) j pv att hj
       refine ⟨u, ?_, p2⟩
       rw [← p1]
       congr 1
       have e4 : i * inf.size = off * inf.size + (i - off) * inf.size := by rw [← arq]; congr 1; omega
       omega
     ·rw [lk] at hj
      simp only [cond_true] at hj
      have ML : i < off := by simpa using lk
      have e3 : (i + 1) * inf.size ≤ off * inf.size := ari _ ML
      rw [if_neg att]
      exact iW i j pv hi hj) 0 (fun i j bs n' e' f' F' hi hj => by
    rw [ard]
    refine ⟨hi, ?_⟩
    unfold Qi at hj
    cases lk : Nat.blt i off
    ·rw [lk] at hj
     have ML : off ≤ i := zJ lk
     cases nv : Nat.blt i (off + m)
     ·rw [nv] at hj; exact hj
     ·rw [nv] at hj
      have MM : i < off + m := by simpa using nv
      have := hqo (i - off) j _ att hj
      cases this
    ·rw [lk] at hj; exact hj)
   obtain ⟨ji, mQ⟩ := lL
   exact eG.gC (xX GQ rfl hr) hK (.int _ _) mQ ji
theorem Dn (hT : cd P T) (hc : Core μ h S w) (ht : ∀ t, aY μ h S w (env t) (a.tmps.getD t undef)) (args : Array Operand) (ts : Array TypeId) (hp : pop P T (.call ⟨.builtin .copy, args, ts⟩) env h K) :
  eG P ⟨dst, .call ⟨.builtin .copy, args, ts⟩, ty, pos, after, guard⟩ a μ h S w K := by
 obtain ⟨args⟩ := args
 obtain ⟨ts⟩ := ts
 simp only [pop] at hp
 split at hp
 ·rename_i s x t tx
  have hs := bh ht s
  have hx := bh ht x
  have main : ∀ (e sz bytes : Nat) (zero : List PV), T.get t = .slice e sz bytes zero → vY e sz (ev env s) (ev env x) h K →
    eG P ⟨dst, .call ⟨.builtin .copy, #[s, x], #[t, tx]⟩, ty, pos, after, guard⟩ a μ h S w K := by
   intro e sz bytes zero eL hp
   have fv := (hT.slice _ _ _ _ _ eL).2.1
   unfold vY at hp
   split at hp
   ·rename_i id gen off len hes
    rw [hes] at hs
    split at hp
    ·rename_i g bs n e' f hg
     obtain ⟨rfl, hp⟩ := hp
     replace hp := aR hp
     obtain ⟨vx, hp⟩ := hp
     simp only [As] at vx
     obtain rfl := No vx.1
     obtain rfl := No vx.2
     obtain ⟨m, q, ⟨hb, f', oB, hK⟩, vU, hqo⟩ := tc (P := P) hc _ _ hx sz fv _ hp
     exact MK hT hc t tx e sz bytes zero eL s x id g off len n f (dK hg) hs m q vU hqo hb ⟨_, cM.set _ _ _ _ _ _ _ _ oB, hK⟩
    ·exact asY
   ·exact asY
  split at hp
  ·rename_i e sz bytes zero e' bs aaW am3 eL htx
   exact main e sz bytes zero eL hp
  ·rename_i e sz bytes zero eL htx
   exact main e sz bytes zero eL hp
  ·exact asY
 ·exact asY
theorem xY (hT : cd P T) (hc : Core μ h S w) (ht : ∀ t, aY μ h S w (env t) (a.tmps.getD t undef)) {op : Op} (hp : pop P T op env h K) :
  eG P ⟨dst, op, ty, pos, after, guard⟩ a μ h S w K := by
 cases op with
 | store t ad x => exact Bs hT hc ht t ad x hp
 | makeSlice t l c => exact CN hT hc ht t l c hp
 | box t x => exact Fw hc ht t x hp
 | alloc t => exact Bu hT hc t hp
 | buildSlice t len parts => exact sX hT hc ht t len parts hp
 | convert s d x => exact vW hT hc ht s d x hp
 | binOp bo t x y t' => exact zI hT hc ht bo t t' x y hp
 | makeMap t r => cases r with
  | none => exact xk hT hc t hp
  | some r => exact hp.elim
 | mapUpdate t m k x => exact uw hT hc ht t m k x hp
 | call c =>
  obtain ⟨cal, args, ts⟩ := c
  cases cal with
  | value fo => exact Dj hc ht fo args ts hp
  | invoke r m => exact .mW hc (ky hT hc.heap ht hp)
  | builtin b => cases b with
   | append => exact zG hT hc ht args ts hp
   | copy => exact Dn hT hc ht args ts hp
   | _ => exact .mW hc (ky hT hc.heap ht hp)
 | _ => exact .mW hc (ky hT hc.heap ht hp)
end
section
variable {P : Program} {T : lq} {μ : Mu} {h η : List ak} {k : List Nat} {S : Nat → Prop} {w : World} {m : Nat}
theorem um.get : ∀ (l r : List PV), um h η k l r → r.length = l.length ∧ ∀ (j : Nat) (pv eg : PV), l[j]? = some pv → r[j]? = some eg → Fz h η k pv eg
 | [], [], _ => ⟨rfl, fun j pv eg hj => by simp at hj⟩
 | [], _ :: _, hh => hh.elim
 | _ :: _, [], hh => hh.elim
 | a :: l, b :: r, hh => by
  obtain ⟨h1, h2⟩ := hh
  obtain ⟨q1, q2⟩ := um.get l r h2
  refine ⟨by simp [q1], fun j pv eg hj Ef => ?_⟩
  cases j with
  | zero =>
   simp at hj Ef
   subst hj Ef
   exact h1
  | succ j => exact q2 j pv eg atC (by simpa using Ef)
theorem kB : ∀ (l : List ak) (r : List Nat) (i : Nat), lN h η k m i l r → l.length = r.length ∧ ∀ (j : Nat) (o : ak), l[j]? = some o → ∃ id, r[j]? = some id ∧ vN h η k m o (i + j) id
 | [], [], i, _ => ⟨rfl, fun j o hj => by simp at hj⟩
 | [], _ :: _, _, hh => hh.elim
 | _ :: _, [], _, hh => hh.elim
 | o :: l, id :: r, i, hh => by
  obtain ⟨h1, h2⟩ := hh
  obtain ⟨q1, q2⟩ := kB l r (i + 1) h2
  refine ⟨by simp [q1], fun j o' hj => ?_⟩
  cases j with
  | zero =>
   simp at hj
   subst hj
   exact ⟨id, rfl, h1⟩
  | succ j =>
   simp at hj
   obtain ⟨id', r1, r2⟩ := q2 j o' hj
   exact ⟨id', by simpa using r1, by rw [show i + (j + 1) = i + 1 + j from by omega]; exact r2⟩
def jJ (μ : Mu) (h : List ak) (k : List Nat) : Mu := fun id' => match k[id']? with | some id => (match h[id]? with | some _ => μ id | none => none) | none => none
theorem nP {μ : Mu} {h : List ak} {k : List Nat} {id id' : Nat} {o : ak} (hk : k[id']? = some id) (ho : h[id]? = some o) : jJ μ h k id' = μ id := by unfold jJ; rw [hk]; simp only [ho]
theorem xZ {μ : Mu} {h : List ak} {k : List Nat} {id id' : Nat} (hk : k[id']? = some id) (ho : h[id]? = none) : jJ μ h k id' = none := by unfold jJ; rw [hk]; simp only [ho]
def x5 (μ : Mu) (h : List ak) (k : List Nat) (S : Nat → Prop) : Nat → Prop :=
 fun b => S b ∨ ∃ (id g sz n : Nat) (e : TypeId) (f : Nat → List PV) (base : Nat), id ∉ k ∧ h[id]? = some (ak.row g sz n e f) ∧ (μ id = some (b, base) ∨ ∃ i j, cA h id i j b)
theorem MN {S S' : Nat → Prop} {w : World} (hS : ∀ b, S b → S' b) {pv : PV} {v : Value} (h : jH S w pv v) : ∀ eg, vO pv eg → (∀ sz n e f F, pv = .fm sz n e f F → ∀ b, F b → S' b) → aE S' w eg v := by
 induction h with
 | nil sz e f F hF =>
  intro eg ho _
  cases ho
  exact .lV _ _ _ _
 | vh sz n e f F b off c a cur vf hF hb hlen hc ha dT aI ku rS xl BP ih =>
  intro eg ho hk
  have hk := hk _ _ _ _ _ rfl
  cases ho with
  | mk _ _ _ _ f' _ hl hf hoo hp =>
   rcases arP n with h0 | h0
   ·subst h0; exact .lV _ _ _ _
   ·obtain rfl := ha att
    have get : ∀ (i j : Nat) (eg : PV), i < n → (f' i)[j]? = some eg → ∃ pv, (f i)[j]? = some pv := fun i j eg hi hj => by
     have B4 : j < (f i).length := by rw [← hl i hi]; exact (At.1 hj).1
     exact ⟨_, Of B4⟩
    refine .eu sz n f' b off c vf (hk b hF) (fun i hi => by rw [hl i hi]; exact hlen i hi) hc (fun i j eg hi hj => ?_) (fun i j eg hi hj => ?_)
    ·obtain ⟨pv, mB⟩ := get i j eg hi hj
     rw [cell_of_row w b _ cur e (0, 0) hb, ← aI i j pv hi mB]
    ·obtain ⟨pv, mB⟩ := get i j eg hi hj
     cases hx : eC pv with
     | false =>
      rw [hf i j pv eg hi mB hj hx]
      rcases ku i j pv hi mB with q | ⟨_, _, _, _, _, q⟩
      ·exact q.mono (fun _ _ => rfl) hS
      ·rw [q] at hx; cases hx
     | true =>
      have hoo := hoo i j pv eg hi mB hj hx
      cases pv with
      | fm lh n2 e2 f2 F2 => exact ih i j lh n2 e2 f2 F2 hi mB eg hoo (fun _ _ _ _ _ he b' kr => by
        injection he with _ _ _ _ he
        subst he
        exact hk b' (xl i j _ _ _ _ _ hi mB b' kr).1)
      | _ => cases hx
theorem th {μ' : Mu} {h' : List ak} {S' : Nat → Prop} {pv : PV} {v : Value} (hp : bZ pv = true) (hc : bm μ' h' S' w pv v) : aE S' w pv v := by
 cases pv <;> first | exact hc | cases hp
theorem pn (hc : Core μ h S w) (hh : lN h η k m 0 η k) {pv eg : PV} (hz : Fz h η k pv eg) :
  (∀ v, bm μ h S w pv v → bm (jJ μ h k) η (x5 μ h k S) w eg v) ∧ (∀ v, gn μ h S w pv v → gn (jJ μ h k) η (x5 μ h k S) w eg v) ∧ (∀ v, aY μ h S w pv v → aY (jJ μ h k) η (x5 μ h k S) w eg v) := by
 have up : ∀ pv v, aE S w pv v → aE (x5 μ h k S) w pv v := fun pv v hp => aE.mono (fun _ _ => rfl) (fun b hb => .inl hb) hp
 have same : ∀ pv : PV, (∀ v, bm μ h S w pv v → aE S w pv v) → (∀ v, gn μ h S w pv v → bm μ h S w pv v) → (∀ v, aY μ h S w pv v → gn μ h S w pv v) → ∀ eg : PV, (∀ v, aE S w pv v → aE (x5 μ h k S) w eg v) →
   (∀ v, bm μ h S w pv v → bm (jJ μ h k) η (x5 μ h k S) w eg v) ∧ (∀ v, gn μ h S w pv v → bm (jJ μ h k) η (x5 μ h k S) w eg v) ∧ (∀ v, aY μ h S w pv v → bm (jJ μ h k) η (x5 μ h k S) w eg v) :=
  fun pv h1 h2 h3 eg hp => ⟨fun v hv => bm.jd (hp v (h1 v hv)), fun v hv => bm.jd (hp v (h1 v (h2 v hv))), fun v hv => bm.jd (hp v (h1 v (h2 v (h3 v hv))))⟩
 induction hz with
 | int k' n => exact same (.int k' n) (fun _ h => h) (fun _ h => h) (fun _ h => h) _ (up _)
 | bool b => exact same (.bool b) (fun _ h => h) (fun _ h => h) (fun _ h => h) _ (up _)
 | str s => exact same (.str s) (fun _ h => h) (fun _ h => h) (fun _ h => h) _ (up _)
 | bf => exact same .bf (fun _ h => h) (fun _ h => h) (fun _ h => h) _ (up _)
 | dt => exact same .dt (fun _ h => h) (fun _ h => h) (fun _ h => h) _ (up _)
 | UT sz f => exact same .bf (fun _ h => h) (fun _ h => h) (fun _ h => h) (.eu sz 0 f) (fun v hv => by cases hv; exact .lV _ _ _ _)
 | amR id id' g' bs e' f' hk ho hη =>
  have key : ∀ v, v = Value.slice none 0 0 → aV (jJ μ h k) η w id' g' 0 0 v := fun v hv => by
   unfold aV
   rw [hη]
   refine ⟨⟨_, _, _, hv⟩, aqP _, fun _ => ⟨aqP _, ?_⟩⟩
   rw [xZ hk ho]
   exact hv
  have inv : ∀ v, aE S w .bf v → v = Value.slice none 0 0 := fun v hv => by cases hv; rfl
  exact ⟨fun v hv => key v (inv v hv), fun v hv => key v (inv v hv), fun v hv => key v (inv v hv)⟩
 | fn f => exact same (.fn f) (fun _ h => h) (fun _ h => h) (fun _ h => h) _ (up _)
 | dY cs => exact same (.dY cs) (fun _ h => h) (fun _ h => h) (fun _ h => h) _ (up _)
 | eu sz n f f' hf =>
  exact same (.eu sz n f) (fun _ h => h) (fun _ h => h) (fun _ h => h) (.eu sz n f') (fun v hv => by
   have hv := up _ _ hv
   cases hv with
   | lV _ _ a c => exact .lV _ _ _ _
   | eu _ _ _ b off c vf h1 h2 h3 h4 h5 =>
    exact .eu sz n f' b off c vf h1 (fun i hi => by rw [hf i hi]; exact h2 i hi) h3 (fun i j pv hi hj => h4 i j pv hi atL) (fun i j pv hi hj => h5 i j pv hi atL))
 | fO pv => exact ⟨fun v hv => hv.one, fun _ _ => trivial, fun _ _ => trivial⟩
 | fm sz n e f F => exact ⟨fun v hv => hv, fun v hv => hv, fun v hv => hv⟩
 | Fs sz e f => exact ⟨fun v hv => bm.one hv, fun v hv => bm.one (pv := .bf) (μ := μ) (h := h) hv, fun v hv => bm.one (pv := .bf) (μ := μ) (h := h) hv⟩
 | own id id' g g' sz bs n n' off len e e' f f' hk ho hη hn =>
  have key : ∀ v, aV μ h w id g off len v → aV (jJ μ h k) η w id' g' off len v := fun v hv => by
   unfold aV at hv ⊢
   rw [ho] at hv
   rw [hη]
   obtain ⟨h1, _, lx⟩ := hv
   have NI := lx rfl
   clear lx
   obtain ⟨h2, h3⟩ := NI
   obtain ⟨_, bP⟩ := kB η k 0 hh
   obtain ⟨Qk, r1, r2⟩ := bP id' _ hη
   rw [hk] at r1
   injection r1 with r1
   subst r1
   unfold vN at r2
   rw [ho] at r2
   obtain ⟨_, rfl, _, _⟩ := r2
   refine ⟨h1, aqP _, fun _ => ⟨hn, ?_⟩⟩
   have hm : jJ μ h k id' = μ id := nP hk ho
   rw [hm]
   exact h3
  exact ⟨key, key, key⟩
 | aM id id' g g' sz bs n n' i off e e' f f' hk ho hη hn =>
  have key : ∀ v, a6 μ h w id g i off v → a6 (jJ μ h k) η w id' g' i off v := fun v hv => by
   unfold a6 at hv ⊢
   rw [ho] at hv
   rw [hη]
   obtain ⟨h1, _, lx⟩ := hv
   have NI := lx rfl
   clear lx
   obtain ⟨h2, h3⟩ := NI
   obtain ⟨_, bP⟩ := kB η k 0 hh
   obtain ⟨Qk, r1, r2⟩ := bP id' _ hη
   rw [hk] at r1
   injection r1 with r1
   subst r1
   unfold vN at r2
   rw [ho] at r2
   obtain ⟨_, rfl, _, rfl, _⟩ := r2
   refine ⟨h1, aqP _, fun _ => ⟨hn, ?_⟩⟩
   have hm : jJ μ h k id' = μ id := nP hk ho
   rw [hm]
   exact h3
  exact ⟨key, key, key⟩
 | kX f bp BQ hl TX =>
  have key : ∀ v, k6 μ h w f bp v → k6 (jJ μ h k) η w f BQ v := fun v hv => by
   obtain ⟨vs, h1, h2, h3⟩ := hv
   refine ⟨vs, h1, h2.trans hl.symm, fun j p' hj => ?_⟩
   have cD : j < bp.length := by rw [← hl]; exact (At.1 hj).1
   obtain ⟨hk, ⟨sz, n, e, g, ho⟩, bs, n', e', g', hη, hn⟩ := TX j _ p' (Of cD) hj
   obtain ⟨u, q1, q2⟩ := h3 j _ (Of cD)
   refine ⟨u, q1, ?_⟩
   unfold a6 at q2 ⊢
   rw [ho] at q2
   rw [hη]
   obtain ⟨a1, _, a2⟩ := q2
   have a3 := a2 rfl
   clear a2
   obtain ⟨a4, a5⟩ := a3
   obtain ⟨_, bP⟩ := kB η k 0 hh
   obtain ⟨Qk, r1, r2⟩ := bP p'.1 _ hη
   rw [hk] at r1
   injection r1 with r1
   subst r1
   unfold vN at r2
   rw [ho] at r2
   obtain ⟨_, rfl, _, rfl, _⟩ := r2
   refine ⟨a1, aqP _, fun _ => ⟨hn, ?_⟩⟩
   rw [nP hk ho]
   exact a5
  exact ⟨key, key, key⟩
 | kP id id' g g' sz bs n n' e e' f f' hk ho hη =>
  have key : ∀ v, ew μ h w id v → ew (jJ μ h k) η w id' v := fun v hv => by
   unfold ew at hv ⊢
   rw [ho] at hv
   rw [hη]
   obtain ⟨h1, b, base, q1, q2, q3⟩ := hv
   exact ⟨h1, b, base, (nP hk ho).trans q1, q2, q3⟩
  exact ⟨key, key, key⟩
 | frz id g sz n off len e f f' hk ho hl hp hf ih =>
  have key : ∀ v, aV μ h w id g off len v → bm (jJ μ h k) η (x5 μ h k S) w (.eu sz len f') v := fun v hv => by
   refine bm.jd ?_
   unfold aV at hv
   rw [ho] at hv
   obtain ⟨_, _, hv⟩ := hv
   obtain ⟨hle, hv⟩ := hv rfl
   obtain ⟨hlr, aI⟩ := hc.heap id g sz n e f ho
   cases dX : μ id with
   | none =>
    rw [dX] at hv aI
    have hn : n = 0 := aI
    have h0 : len = 0 := by omega
    subst h0
    have hv : v = .slice none 0 0 := hv
    subst hv
    exact .lV _ _ _ _
   | some p =>
    obtain ⟨b, base⟩ := p
    rw [dX] at hv aI
    obtain ⟨ad, cap, rfl, Oi, rP, CH⟩ := hv
    obtain ⟨cur, ju, mP, iW⟩ := bw.cells CH aI
    rcases arP len with h0 | h0
    ·subst h0
     exact .lV _ _ _ _
    ·have rP := rP att
     subst rP
     have hcl : ∀ (i j : Nat) (eg : PV), i < len → (f' i)[j]? = some eg → ∃ u, w.cell? ⟨b, base + off * sz + i * sz + j, none⟩ = some u ∧ aE (x5 μ h k S) w eg u := fun i j eg hi hj => by
      have B4 : j < (f (off + i)).length := by rw [← hl i hi]; exact (At.1 hj).1
      have mB := Of B4
      obtain ⟨u, h1, h2⟩ := iW (off + i) j _ att mB
      have h3 : aE (x5 μ h k S) w eg u := by
       by_cases hof : vO (f (off + i))[j] eg
       ·generalize hpv : (f (off + i))[j] = pv at hof h2 mB
        cases hof with
        | mk lh n2 e2 f2 f2' F2 a1 a2 a3 a4 =>
         exact MN (fun b hb => .inl hb) (show jH S w (.fm lh n2 e2 f2 F2) u from h2) _ (.mk lh n2 e2 f2 f2' F2 a1 a2 a3 a4) (fun _ _ _ _ _ he b' kr => by
          injection he with _ _ _ _ he
          subst he
          exact .inr ⟨id, g, sz, n, e, f, base, hk, ho, .inr ⟨off + i, j, _, _, _, _, _, _, _, _, _, _, ho, by omega, mB, kr⟩⟩)
       ·exact th (hp i j eg hi hj) ((ih i j _ eg hi mB hj hof).1 u h2.c)
      refine ⟨u, ?_, h3⟩
      rw [cell_of_row w b _ cur e (0, 0) ju, ← h1]
      congr 1
      rw [arq]
      omega
     refine .eu sz len f' b (base + off * sz) cap (fun i j => (w.cell? ⟨b, base + off * sz + i * sz + j, none⟩).getD undef) (.inr ⟨id, g, sz, n, e, f, base, hk, ho, .inl dX⟩) (fun i hi => by rw [hl i hi]; exact hlr _ att) Oi (fun i j pv hi hj => ?_) (fun i j pv hi hj => ?_)
     ·obtain ⟨u, h1, _⟩ := hcl i j pv hi hj
      rw [h1]; rfl
     ·obtain ⟨u, h1, h2⟩ := hcl i j pv hi hj
      simp only [h1, asF]
      exact h2
  exact ⟨key, key, key⟩
 | agg cs sJ hl TX ih =>
  have key : ∀ v, gn μ h S w (.agg cs) v → gn (jJ μ h k) η (x5 μ h k S) w (.agg sJ) v := fun v hv => by
   obtain ⟨vs, h1, h2, h3⟩ := hv
   refine ⟨vs, h1, h2.trans hl.symm, fun j eg hj => ?_⟩
   have B4 : j < cs.length := by rw [← hl]; exact (At.1 hj).1
   have mB := Of B4
   obtain ⟨u, q1, q2⟩ := h3 j _ mB
   exact ⟨u, q1, (ih j _ eg mB hj).1 u q2⟩
  exact ⟨fun _ hv => (show False from hv).elim, key, key⟩
 | aU cs sJ hl TX ih =>
  refine ⟨fun _ hv => (show False from hv).elim, fun _ hv => (show False from hv).elim, fun v hv => ?_⟩
  obtain ⟨vs, h1, h2, h3⟩ := hv
  refine ⟨vs, h1, h2.trans hl.symm, fun j eg hj => ?_⟩
  have B4 : j < cs.length := by rw [← hl]; exact (At.1 hj).1
  have mB := Of B4
  obtain ⟨u, q1, q2⟩ := h3 j _ mB
  exact ⟨u, q1, (ih j _ eg mB hj).2.1 u q2⟩
end
section
variable {P : Program} {T : lq} {μ : Mu} {h η : List ak} {k : List Nat} {S : Nat → Prop} {w : World} {m : Nat}
theorem MO {a a' : PV} (hz : Fz h η k a a') (ha : oX a = true) : oX a' = true ∧ ∀ v, nY a v → nY a' v := by
 cases hz with
 | int k' n => exact ⟨rfl, fun _ h => h⟩
 | bool b => exact ⟨rfl, fun _ h => h⟩
 | str s => exact ⟨rfl, fun _ h => h⟩
 | fO _ => exact ⟨rfl, fun v h => by
   cases a <;> first | (cases ha; done) | (have h : v = _ := h; subst h; rfl) | exact h⟩
 | _ => cases ha
theorem EG {a a' : PV} (hz : Fz h η k a a') (ha : ir a = true) : ir a' = true ∧ ∀ v, mD a v → mD a' v := by
 cases hz with
 | int k' n => exact ⟨rfl, fun _ h => h⟩
 | bool b => exact ⟨rfl, fun _ h => h⟩
 | str s => exact ⟨rfl, fun _ h => h⟩
 | fO _ => exact ⟨rfl, fun _ _ => trivial⟩
 | agg cs sJ hl hc =>
  have el : ∀ j eg, sJ[j]? = some eg → ∃ pv, cs[j]? = some pv ∧ oX eg = true ∧ ∀ v, nY pv v → nY eg v := fun j eg hj => by
   have cD : j < cs.length := by rw [← hl]; exact (At.1 hj).1
   have h1 := Of cD
   have h2 := MO (hc j _ _ h1 hj) (aqW.1 ha _ (arb cD))
   exact ⟨_, h1, h2⟩
  refine ⟨aqW.2 (fun x hx => ?_), fun v hv => ?_⟩
  ·obtain ⟨j, hj, rfl⟩ := arW.1 hx
   obtain ⟨_, _, h2, _⟩ := el j _ (Of hj)
   exact h2
  ·obtain ⟨vs, q1, q2, q3⟩ := hv
   refine ⟨vs, q1, q2.trans hl.symm, fun j eg hj => ?_⟩
   obtain ⟨pv, e1, _, e2⟩ := el j eg hj
   obtain ⟨u, hu, hr⟩ := q3 j pv e1
   exact ⟨u, hu, e2 u hr⟩
 | _ => cases ha
theorem vZ : ∀ {l : List Nat} {x i : Nat}, l[i]? = some x → GU l x = true
 | [], x, i, h => by simp at h
 | a :: r, x, 0, h => by
  simp at h; subst h
  unfold GU
  rw [show Nat.beq a a = true from arY a]
 | a :: r, x, i + 1, h => by
  unfold GU
  cases Nat.beq a x
  ·exact vZ atJ
  ·rfl
theorem pH : ∀ {η : List ak} {k : List Nat} {i id g sz n : Nat} {e : TypeId} {f : Nat → List PV}, η[i]? = some (ak.row g sz n e f) → k[i]? = some id → ∃ j : Nat, (kU η k)[j]? = some id
 | [], _, i, _, _, _, _, _, _, h, _ => by simp at h
 | _ :: _, [], i, _, _, _, _, _, _, _, h => by simp at h
 | .row _ _ _ _ _ :: r, a :: is, 0, id, _, _, _, _, _, _, h => by simp at h; subst h; exact ⟨0, rfl⟩
 | .dead :: r, a :: is, 0, id, _, _, _, _, _, h, _ => by simp at h
 | .row _ _ _ _ _ :: r, a :: is, i + 1, id, _, _, _, _, _, h1, h2 => by
  obtain ⟨j, hj⟩ := pH (i := i) atO atN
  exact ⟨j + 1, by simpa [kU] using hj⟩
 | .dead :: r, a :: is, i + 1, id, _, _, _, _, _, h1, h2 => by
  obtain ⟨j, hj⟩ := pH (i := i) atO atN
  exact ⟨j, by simpa [kU] using hj⟩
theorem pI : ∀ {η : List ak} {k : List Nat} {i j id g sz n g' bs n' : Nat} {e e' : TypeId} {f f' : Nat → List PV}, k8 (kU η k) = true → η[i]? = some (ak.row g sz n e f) → k[i]? = some id → η[j]? = some (ak.row g' bs n' e' f') → k[j]? = some id → i = j
 | [], _, i, _, _, _, _, _, _, _, _, _, _, _, _, _, h, _, _, _ => by simp at h
 | _ :: _, [], i, _, _, _, _, _, _, _, _, _, _, _, _, _, _, h, _, _ => by simp at h
 | .row _ _ _ _ _ :: r, a :: is, 0, 0, _, _, _, _, _, _, _, _, _, _, _, _, _, _, _, _ => rfl
 | .row _ _ _ _ _ :: r, a :: is, 0, j + 1, id, _, _, _, _, _, _, _, _, _, _, hn, _, h2, h3, h4 => by
  simp at h2; subst h2
  obtain ⟨q, hq⟩ := pH (η := r) (k := is) (i := j) (by simpa using h3) (by simpa using h4)
  unfold kU k8 at hn
  rw [vZ hq] at hn; cases hn
 | .row _ _ _ _ _ :: r, a :: is, i + 1, 0, id, _, _, _, _, _, _, _, _, _, _, hn, h1, h2, _, h4 => by
  simp at h4; subst h4
  obtain ⟨q, hq⟩ := pH (η := r) (k := is) (i := i) atO atN
  unfold kU k8 at hn
  rw [vZ hq] at hn; cases hn
 | .row _ _ _ _ _ :: r, a :: is, i + 1, j + 1, id, _, _, _, _, _, _, _, _, _, _, hn, h1, h2, h3, h4 => by
  unfold kU k8 at hn
  cases hm : GU (kU r is) a with
  | true => rw [hm] at hn; cases hn
  | false =>
   rw [hm] at hn
   rw [pI (η := r) (k := is) (i := i) (j := j) hn atO atN (by simpa using h3) (by simpa using h4)]
 | .dead :: r, a :: is, 0, _, _, _, _, _, _, _, _, _, _, _, _, _, h, _, _, _ => by simp at h
 | .dead :: r, a :: is, _ + 1, 0, _, _, _, _, _, _, _, _, _, _, _, _, _, _, h, _ => by simp at h
 | .dead :: r, a :: is, i + 1, j + 1, id, _, _, _, _, _, _, _, _, _, _, hn, h1, h2, h3, h4 => by
  rw [pI (η := r) (k := is) (i := i) (j := j) hn atO atN (by simpa using h3) (by simpa using h4)]
theorem sh (hc : Core μ h S w) (hh : lN h η k m 0 η k) (hk : k8 (kU η k) = true) : Core (jJ μ h k) η (x5 μ h k S) w ∧ (∀ b, bH (jJ μ h k) η b → bH μ h b) ∧ ∀ b, x5 μ h k S b → S b ∨ bH μ h b := by
 obtain ⟨hlen, bP⟩ := kB η k 0 hh
 have back : ∀ (id' g' bs n' : Nat) (e' : TypeId) (f' : Nat → List PV), η[id']? = some (ak.row g' bs n' e' f') → (n' = 0 ∧ jJ μ h k id' = none) ∨ ∃ (id g : Nat) (f : Nat → List PV), k[id']? = some id ∧ (∃ n, h[id]? = some (ak.row g bs n e' f) ∧ n' ≤ n ∧ (n' = n ∨ bs ≠ 2)) ∧ jJ μ h k id' = μ id ∧
   ∀ i, i < n' → (f' i).length = (f i).length ∧ ∀ (j : Nat) (pv eg : PV), (f i)[j]? = some pv → (f' i)[j]? = some eg → Fz h η k pv eg := fun id' g' bs n' e' f' hη => by
  obtain ⟨id, r1, r2⟩ := bP id' _ hη
  unfold vN at r2
  cases ho : h[id]? with
  | none => rw [ho] at r2; exact .inl ⟨r2.2, xZ r1 ho⟩
  | some o =>
   cases o with
   | dead => rw [ho] at r2; exact r2.elim
   | row g sz n e f =>
    rw [ho] at r2
    obtain ⟨_, rfl, r4, rfl, r3⟩ := r2
    refine .inr ⟨id, g, f, r1, ⟨n, ho, ?_⟩, nP r1 ho, fun i hi => um.get _ _ (r3 i hi)⟩
    rcases r4 with rfl | ⟨_, r5, r6⟩
    ·exact ⟨aqP _, .inl rfl⟩
    ·exact ⟨r6, .inr r5⟩
 have uv : ∀ b, w8 (jJ μ h k) η b → ∃ id, id ∈ k ∧ ∃ g sz n e f base, h[id]? = some (ak.row g sz n e f) ∧ μ id = some (b, base) := fun b hb => by
  obtain ⟨id', g', bs, n', e', f', base, hη, hm⟩ := hb
  rcases back id' g' bs n' e' f' hη with ⟨_, q3⟩ | ⟨id, g, f, q1, ⟨n, q2, _⟩, q3, _⟩
  ·rw [q3] at hm; cases hm
  ·rw [q3] at hm
   exact ⟨id, arh q1, g, bs, n, e', f, base, q2, hm⟩
 have am5 : ∀ {pv : PV} {sz n : Nat} {e : TypeId} {f : Nat → List PV} {F : Nat → Prop}, Fz h η k pv (.fm sz n e f F) → pv = .fm sz n e f F ∨ (pv = .bf ∧ n = 0 ∧ ∀ b, ¬ F b) := fun hz => by
  cases hz with
  | fm => exact .inl rfl
  | Fs => exact .inr ⟨rfl, rfl, fun _ h => h⟩
 have lZ : ∀ id' i j b, cA η id' i j b → ∃ id, k[id']? = some id ∧ cA h id i j b ∧ ∃ g sz n e f, η[id']? = some (ak.row g sz n e f) := fun id' i j b ⟨g', bs, n', e', f', lh, n2, e2, f2, F2, q1, q2, q3, q4⟩ => by
  rcases back id' g' bs n' e' f' q1 with ⟨r1, _⟩ | ⟨id, g, f, r1, ⟨n, r2, hle, _⟩, r3, r4⟩
  ·omega
  ·obtain ⟨s1, s2⟩ := r4 i q2
   have B4 : j < (f i).length := by rw [← s1]; exact (At.1 q3).1
   have mB := Of B4
   rcases am5 (s2 j _ _ mB q3) with this | ⟨_, _, this⟩
   ·exact ⟨id, r1, ⟨g, bs, n, e', f, _, _, _, _, _, r2, by omega, by rw [mB, this], q4⟩, _, _, _, _, _, q1⟩
   ·exact absurd q4 (this b)
 have kh : ∀ b, bH (jJ μ h k) η b → bH μ h b := fun b hb => by
  rcases hb with hb | ⟨x, y, z, hb⟩
  ·obtain ⟨id, _, g, sz, n, e, f, base, q2, hm⟩ := uv b hb
   exact .inl ⟨id, g, sz, n, e, f, base, q2, hm⟩
  ·obtain ⟨id, _, q, _⟩ := lZ x y z b hb
   exact ats
 have hs : ∀ b, x5 μ h k S b → S b ∨ bH μ h b := fun b hb => by
  rcases hb with hb | ⟨id, g, sz, n, e, f, base, _, h1, h2 | ⟨i, j, h2⟩⟩
  ·exact .inl hb
  ·exact .inr (.inl ⟨id, g, sz, n, e, f, base, h1, h2⟩)
  ·exact .inr (.inr ⟨_, _, _, h2⟩)
 refine ⟨⟨fun id' g' bs n' e' f' hη => ?_, ?_⟩, kh, hs⟩
 ·rcases back id' g' bs n' e' f' hη with ⟨rfl, q3⟩ | ⟨id, g, f, q1, ⟨n, q2, hle, hor⟩, q3, q4⟩
  ·exact ⟨fun i hi => absurd hi (arK _), by rw [q3]⟩
  obtain ⟨r1, r2⟩ := hc.heap id g bs n e' f q2
  refine ⟨fun i hi => (q4 i hi).1.trans (r1 i (ars hi hle)), ?_⟩
  rw [q3]
  cases hm : μ id with
  | none => rw [hm] at r2; have r2 : n = 0 := r2; show n' = 0; omega
  | some p =>
   obtain ⟨b, base⟩ := p
   rw [hm] at r2
   obtain ⟨o, s1, s2⟩ := r2
   refine ⟨o, s1, ?_⟩
   cases o with
   | cells cur e2 z =>
    obtain ⟨x1, x2, x3, s3⟩ := s2
    refine ⟨x1, x2, arN (Nat.add_le_add_left (ari _ hle) _) x3, fun i j eg hi hj => ?_⟩
    have B4 : j < (f i).length := by rw [← (q4 i hi).1]; exact (At.1 hj).1
    have mB := Of B4
    obtain ⟨u, t1, t2⟩ := s3 i j _ (ars hi hle) mB
    have hz := (q4 i hi).2 j _ eg mB hj
    refine ⟨u, t1, ?_⟩
    cases hx : eC eg with
    | false => exact bm.k ((pn hc hh hz).1 u t2.c) hx
    | true =>
     cases eg with
     | fm lh n2 e2 f2 F2 =>
      rcases am5 hz with hq | ⟨hq, rfl, hF⟩
      ·rw [hq] at t2
       exact jH.mono (fun _ _ => rfl) (fun b hb => .inl hb) (show jH S w (.fm lh n2 e2 f2 F2) u from t2) (fun _ _ _ _ _ _ _ _ => rfl)
      ·rw [hq] at t2
       have t2 : aE S w .bf u := t2
       cases t2
       exact jH.nil _ _ _ _ hF
     | _ => cases hx
   | map es c =>
    obtain ⟨x1, s3⟩ := s2
    have hn : n' = n := by
     rcases hor with h0 | h0
     ·exact h0
     ·rcases arP n with h1 | h1
      ·omega
      ·obtain ⟨kp, vp, en, y1, _⟩ := s3 0 h1
       have := r1 0 h1
       rw [y1] at this
       exact absurd this.symm h0
    subst hn
    refine ⟨x1, fun i hi => ?_⟩
    obtain ⟨kp, vp, en, y1, y2, y3, y4, y5, y6⟩ := s3 i hi
    obtain ⟨z1, z2⟩ := q4 i hi
    rw [y1] at z1 z2
    generalize oB : f' i = l' at z1 z2 ⊢
    rcases l' with _ | ⟨kp', _ | ⟨vp', _ | ⟨c3, l3⟩⟩⟩ <;> simp at z1
    have w1 := EG (z2 0 kp kp' rfl rfl) y2
    have w2 := EG (z2 1 vp vp' rfl rfl) y3
    exact ⟨kp', vp', en, rfl, w1.1, w2.1, y4, w1.2 _ y5, w2.2 _ y6⟩
   | _ => exact s2.elim
 ·refine ⟨fun b hb hsb => ?_, fun b hb => hc.ok.lt b (kh b hb), fun b hb => ?_, ?_, hc.ok.known.Og (fun _ _ => rfl) (fun _ hb => .inl hb), fun b hb x y z hx => ?_, fun b i x y j x' y' hx qB => ?_⟩
  rotate_right 2
  ·obtain ⟨id, _, g, sz, n, e, f, base, q2, hm⟩ := uv b hb
   obtain ⟨Qk, _, q, _⟩ := lZ x y z b hx
   exact hc.ok.hv b ⟨id, g, sz, n, e, f, base, q2, hm⟩ _ _ _ q
  ·obtain ⟨id1, k1, q1, _, _, _, _, _, r1⟩ := lZ i x y b hx
   obtain ⟨Qk, k2, q2, _, _, _, _, _, r2⟩ := lZ j x' y' b qB
   obtain ⟨e1, e2, e3⟩ := hc.ok.hh b _ _ _ _ _ _ q1 q2
   subst e1
   exact ⟨pI hk r1 k1 r2 k2, e2, e3⟩
  ·rcases hsb with hsb | ⟨Qk, g2, lh, n2, e2, f2, am6, hnk, h1, h2⟩
   ·exact hc.ok.apart b (kh b hb) hsb
   ·rcases hb with hb | ⟨x, y, z, hb⟩
    ·obtain ⟨id, hik, g, sz, n, e, f, base, q2, hm⟩ := uv b hb
     rcases h2 with h2 | ⟨i, j, h2⟩
     ·have := hc.ok.inj id Qk _ _ _ _ _ _ _ _ _ _ _ _ _ q2 h1 hm h2
      subst this
      exact hnk hik
     ·exact hc.ok.hv b ⟨id, g, sz, n, e, f, base, q2, hm⟩ _ _ _ h2
    ·obtain ⟨id, hik, q, _⟩ := lZ x y z b hb
     rcases h2 with h2 | ⟨i, j, h2⟩
     ·exact hc.ok.hv b ⟨Qk, g2, lh, n2, e2, f2, am6, h1, h2⟩ _ _ _ q
     ·obtain ⟨e1, _, _⟩ := hc.ok.hh b _ _ _ _ _ _ q h2
      subst e1
      exact hnk (arh hik)
  ·rcases hs b hb with h1 | h1
   ·exact hc.ok.slt b h1
   ·exact hc.ok.lt b h1
  ·intro i j gi NC ni ei fi gj lK nj ej fj b o o' hi hj lY lj
   rcases back i gi NC ni ei fi hi with ⟨_, q3⟩ | ⟨id1, g1, f1, q1, ⟨nn1, q2, _⟩, q3, _⟩
   ·rw [q3] at lY; cases lY
   rcases back j gj lK nj ej fj hj with ⟨_, r3⟩ | ⟨Qk, g2, f2, r1, ⟨nn2, r2, _⟩, r3, _⟩
   ·rw [r3] at lj; cases lj
   rw [q3] at lY
   rw [r3] at lj
   have := hc.ok.inj id1 Qk _ _ _ _ _ _ _ _ _ _ _ _ _ q2 r2 lY lj
   subst this
   exact pI hk hi q1 hj r1
structure Start where
 μ : Mu
 h : List ak
 S : Nat → Prop
 w : World
 nt : Nat
theorem U0 {C : Start} (hc : Core μ h S w) (hf : Fr C.μ C.h C.S C.w μ h S w) (hh : lN h η k C.h.length 0 η k) (hk : k8 (kU η k) = true) (hm : C.h.length ≤ k.length) :
  Fr C.μ C.h C.S C.w (jJ μ h k) η (x5 μ h k S) w := by
 obtain ⟨hlen, bP⟩ := kB η k 0 hh
 obtain ⟨_, kh, hs⟩ := sh hc hh hk
 have idx : ∀ id, id < C.h.length → ∃ o id', η[id]? = some o ∧ k[id]? = some id' ∧ vN h η k C.h.length o id id' := fun id hid => by
  have cD : id < η.length := by omega
  obtain ⟨id', r1, r2⟩ := bP id _ (Of cD)
  rw [ard] at r2
  exact ⟨_, id', Of cD, r1, r2⟩
 refine ⟨by omega, hf.blocks, fun b hb => .inl (hf.sub b hb), fun b hb => ?_, fun b hb => hf.own b (kh b hb), hf.size, hf.os, hf.tape, hf.output, fun id g0 Ql n0 e0 f0 h0 => ?_, fun id h0 => ?_, hf.bp, fun id g0 Ql n0 e0 f0 b base h0 hm0 kY => ?_, hf.p8⟩
 rotate_right
 ·have hid : id < C.h.length := (At.1 h0).1
  obtain ⟨o, id', q1, q2, q3⟩ := idx id hid
  obtain ⟨r1, r2⟩ := hf.maps id g0 Ql n0 e0 f0 b base h0 hm0 kY
  refine ⟨r1, ?_⟩
  rw [q1]
  unfold vN at q3
  cases o with
  | dead => exact .inl rfl
  | row g' bs n' e' f' =>
   cases ho : h[id']? with
   | none => rw [ho] at q3; exact absurd q3.1 att
   | some o2 =>
    cases o2 with
    | dead => rw [ho] at q3; exact q3.elim
    | row g sz n e f =>
     rw [ho] at q3
     obtain ⟨s1, rfl, s2, rfl, _⟩ := q3
     obtain ⟨rfl, rfl⟩ := s1 hid
     obtain rfl := s2.resolve_right (fun hx => absurd hx.1 att)
     rw [ho] at r2
     rcases r2 with r2 | ⟨_, r3⟩
     ·cases r2
     ·exact .inr ⟨⟨_, _, _, _, _, rfl⟩, (nP q2 ho).trans r3⟩
 ·rcases hs b hb with h1 | h1
  ·exact hf.new b h1
  ·rcases hf.own b h1 with h2 | h2
   ·exact .inr (.inl h2)
   ·exact .inr (.inr h2)
 ·have hid : id < C.h.length := (At.1 h0).1
  obtain ⟨o, id', q1, q2, q3⟩ := idx id hid
  have hg := hf.vK id g0 Ql n0 e0 f0 h0
  rw [q1]
  unfold vN at q3
  cases o with
  | dead => trivial
  | row g' bs n' e' f' =>
   cases ho : h[id']? with
   | none => rw [ho] at q3; exact absurd q3.1 att
   | some o2 =>
    cases o2 with
    | dead => rw [ho] at q3; exact q3.elim
    | row g sz n e f =>
     rw [ho] at q3
     obtain ⟨r1, rfl, r2, rfl, _⟩ := q3
     obtain ⟨rfl, rfl⟩ := r1 hid
     obtain rfl := r2.resolve_right (fun hx => absurd hx.1 att)
     rw [ho] at hg
     refine ⟨hg.1, fun he => ?_⟩
     obtain ⟨s1, s2, s3, s4⟩ := hg.2 he
     exact ⟨by rw [nP q2 ho]; exact s1, s2, s3, s4⟩
 ·have hid : id < C.h.length := (At.1 h0).1
  obtain ⟨o, id', q1, q2, q3⟩ := idx id hid
  have hd := hf.dead id h0
  rw [q1]
  unfold vN at q3
  cases o with
  | dead => rfl
  | row g' bs n' e' f' =>
   cases ho : h[id']? with
   | none => rw [ho] at q3; exact absurd q3.1 att
   | some o2 =>
    cases o2 with
    | dead => rw [ho] at q3; exact q3.elim
    | row g sz n e f =>
     rw [ho] at q3
     obtain ⟨rfl, rfl⟩ := q3.1 hid
     rw [ho] at hd
     cases hd
structure kk (C : Start) (μ : Mu) (h : List ak) (S : Nat → Prop) (env : Env) (a : Act) (w : World) : Prop where
 core : Core μ h S w
 fr : Fr C.μ C.h C.S C.w μ h S w
 tmps : ∀ t, aY μ h S w (env t) (a.tmps.getD t undef)
 size : a.tmps.size = C.nt
 far : ∀ t, C.nt ≤ t → env t = .fO
 defers : a.defers = []
variable {C : Start} {env : Env} {a : Act}
theorem wa (env : Env) (t : Nat) (v : PV) : l7 env t v t = v := by simp [l7]
theorem zK (env : Env) {t j : Nat} (v : PV) (hj : j ≠ t) : l7 env t v j = env j := by
 unfold l7
 have : Nat.beq j t = false := by
  cases hb : Nat.beq j t with
  | true => exact (hj (No hb)).elim
  | false => rfl
 rw [this]; rfl
def kn (nt : Nat) (o : Oper) : Bool := match o.dst with | some t => Nat.blt t nt | none => true
theorem kk.put (hs : kk C μ h S env a w) {μ' : Mu} {h' : List ak} {S' : Nat → Prop} {w' : World} (hf : Fr μ h S w μ' h' S' w') (hc : Core μ' h' S' w') {dst : Option Nat} {v : PV} {val : Value} (hv : aY μ' h' S' w' v val)
  (hd : ∀ t, dst = some t → t < C.nt) : kk C μ' h' S' (cp env dst v) (a.put dst val) w' := by
 refine ⟨hc, hs.fr.trans hf, fun t => ?_, ?_, fun t ht => ?_, ?_⟩
 ·cases dst with
  | none => exact (hs.tmps t).fr hf hs.core.ok
  | some d =>
   have MP := hd d rfl
   by_cases htd : t = d
   ·subst htd
    show aY μ' h' S' w' (l7 env t v t) _
    rw [wa]
    have : ((a.put (some t) val).tmps).getD t undef = val := by
     have cD : t < a.tmps.size := by rw [hs.size]; exact MP
     simp [Act.put, cD]
    rw [this]; exact hv
   ·show aY μ' h' S' w' (l7 env d v t) _
    rw [zK env v htd]
    have : ((a.put (some d) val).tmps).getD t undef = a.tmps.getD t undef := by
     simp [Act.put, asd (asa htd)]
    rw [this]; exact (hs.tmps t).fr hf hs.core.ok
 ·cases dst with
  | none => exact hs.size
  | some d => simp [Act.put, hs.size]
 ·cases dst with
  | none => exact hs.far t ht
  | some d =>
   have MP := hd d rfl
   show l7 env d v t = _
   rw [zK env v att]
   exact hs.far t ht
 ·cases dst with
  | none => exact hs.defers
  | some d => exact hs.defers
theorem kk.wc (hs : kk C μ h S env a w) {t : Nat} {b : Bool} (he : env t = .bool b) : kk C μ h S (l7 env t (.bool b)) a w := by
 have : l7 env t (.bool b) = env := by
  funext j
  by_cases hj : j = t
  ·subst hj; rw [wa, he]
  ·rw [zK env _ hj]
 rw [this]; exact hs
def tj (C : Start) (Q : XQ) : Exit → Act → World → Prop := fun e a w => ∃ μ h S env, kk C μ h S env a w ∧ Q e env h
theorem qJ (hs : kk C μ h S env a w) {ops : Array Oper} {j t : Nat} {b : Bool} (hj : (ops.toList[j]?).bind (·.dst) = some t) (he : env t = .bool b) : yielded ops a.tmps j = some b := by
 have hv := hs.tmps t
 rw [he] at hv
 have hv := hv.j3
 have cD : t < a.tmps.size := by
  rcases arO t a.tmps.size with h1 | h1
  ·exact h1
  ·rw [hs.far t (by rw [← hs.size]; exact h1)] at he; cases he
 unfold yielded
 rw [aro] at hj
 rw [hj]
 simp only [asG]
 have : a.tmps[t]? = some (.bool b) := by
  rw [arl cD]
  simp [cD] at hv
  rw [hv]
 rw [this]
theorem qK : aY μ h S w (.aU []) undef := ⟨#[], rfl, rfl, fun j pv hj => by simp at hj⟩
theorem nQ (hs : kk C μ h S env a w) {ops : Array Oper} {j t : Nat} (hj : (ops.toList[j]?).bind (·.dst) = some t) (he : env t = .aU []) : yielded ops a.tmps j = none := by
 have hv := hs.tmps t
 rw [he] at hv
 obtain ⟨vs, hv, _⟩ := hv
 unfold yielded
 rw [aro] at hj
 rw [hj]
 simp only [asG]
 rcases arO t a.tmps.size with h1 | h1
 ·have : a.tmps[t]? = some (.tuple vs) := by
   rw [arl h1]
   simp [h1] at hv
   rw [hv]
  rw [this]
 ·rw [Array.getElem?_eq_none h1]
theorem qL {K : Env → List ak → Prop} (all : List Oper) (o : Oper) (rest : List Oper) (env : Env) (h : List ak) {j : Nat} {want : Bool} (hg : o.guard = some (j, want)) :
  mH P T all K (o :: rest) env h = (match (all[j]?).bind (·.dst) with
     | some t => match env t with
      | .bool b => eA b
        (match (generalizing := false) want with
         | true => pop P T o.op (l7 env t (.bool true)) h (fun v h' => mH P T all K rest (cp (l7 env t (.bool true)) o.dst v) h')
         | false => mH P T all K rest (cp (l7 env t (.bool true)) o.dst (.aU [])) h)
        (match (generalizing := false) want with
         | true => mH P T all K rest (cp (l7 env t (.bool false)) o.dst (.aU [])) h
         | false => pop P T o.op (l7 env t (.bool false)) h (fun v h' => mH P T all K rest (cp (l7 env t (.bool false)) o.dst v) h'))
      | .aU [] => mH P T all K rest (cp env o.dst (.aU [])) h
      | _ => False
     | none => False) := by
 obtain ⟨dst, op, ty, pos, after, guard⟩ := o
 have hg : guard = some (j, want) := hg
 rw [hg]
 rfl
theorem qM (hT : cd P T) (ops : Array Oper) {K : Env → List ak → Prop} {Q : Exit → Act → World → Prop} (hK : ∀ env h a w μ S, K env h → kk C μ h S env a w → Q .normal a w) :
  ∀ (l : List Oper) (env : Env) (h : List ak) (a : Act) (w : World) (μ : Mu) (S : Nat → Prop), mH P T ops.toList K l env h → (∀ o ∈ l, kn C.nt o = true) → kk C μ h S env a w → wpList P ops Q l a w
 | [], env, h, a, w, μ, S, hp, _, hs => hK env h a w μ S hp hs
 | o :: rest, env, h, a, w, μ, S, hp, hd, hs => by
  have Qm : ∀ t, o.dst = some t → t < C.nt := fun t ht => by
   have := hd o atv
   unfold kn at this
   rw [ht] at this
   simpa using this
  have hdr : ∀ o ∈ rest, kn C.nt o = true := fun o ho => hd o (by simp [ho])
  have run : ∀ env', kk C μ h S env' a w → pop P T o.op env' h (fun v h' => mH P T ops.toList K rest (cp env' o.dst v) h') → o.wp P a w (wpList P ops Q rest) Q := fun env' iv ue => by
   obtain ⟨dst, op, ty, pos, after, guard⟩ := o
   refine xY (env := env') hT iv.core iv.tmps ue _ _ fun v val h' μ' S' w' Qn hv hc hf => ?_
   exact qM hT ops hK rest _ h' _ w' μ' S' Qn hdr (iv.put hf hc hv Qm)
  have skip : ∀ env', kk C μ h S env' a w → mH P T ops.toList K rest (cp env' o.dst (.aU [])) h → wpList P ops Q rest (a.put o.dst undef) w := fun env' iv ue =>
   qM hT ops hK rest _ h _ w μ S ue hdr (iv.put Fr.refl iv.core qK Qm)
  unfold wpList
  cases hg : o.guard with
  | none =>
   have hp : pop P T o.op env h (fun v h' => mH P T ops.toList K rest (cp env o.dst v) h') := by
    exact asT
   rw [if_pos (by simp [Region.wanted, hg])]
   exact .inl (run env hs hp)
  | some p =>
   obtain ⟨j, want⟩ := p
   rw [qL ops.toList o rest env h hg] at hp
   split at hp
   ·rename_i t hj
    split at hp
    ·rename_i b he
     have hy := qJ hs hj he
     obtain ⟨ht, hf⟩ := iV hp
     have iv := hs.wc he
     cases b with
     | true =>
      have hp := ht rfl
      cases want with
      | true => rw [if_pos atA]; exact .inl (run _ iv hp)
      | false => rw [if_neg atA]; exact skip _ iv hp
     | false =>
      have hp := hf rfl
      cases want with
      | true => rw [if_neg atA]; exact skip _ iv hp
      | false => rw [if_pos atA]; exact .inl (run _ iv hp)
    ·rename_i he
     rw [if_neg atP]
     exact skip _ hs hp
    ·exact asY
   ·exact asY
end
section
variable {P : Program} {T : lq} {μ : Mu} {h h1 : List ak} {S : Nat → Prop} {w : World}
theorem EH (hc : Core μ h S w) (hx : Dp h h1) : ∃ μ', Fr μ h S w μ' h1 S w ∧ Core μ' h1 S w := by
 obtain ⟨id, g, sz, n, e, f, i, j, bs, n', e', f', F, f1, hh, hi, hj, EF, MJ, rfl⟩ := hx
 have hid : id < h.length := (At.1 hh).1
 obtain ⟨hl, aI⟩ := hc.heap id g sz n e f hh
 have AU : j < sz := by rw [← hl i hi]; exact (At.1 hj).1
 have sP : ∃ b0 tQ BR v, μ id = some (b0, tQ) ∧ w.heap[b0]? = some (.cells BR e (0, 0)) ∧ tQ + n * sz ≤ BR.size ∧ BR[tQ + i * sz + j]? = some v ∧ jH S w (.fm bs n' e' f' F) v ∧
   ∀ (i j : Nat) (pv : PV), i < n → (f i)[j]? = some pv → ∃ v : Value, BR[tQ + i * sz + j]? = some v ∧ k4 μ h S w pv v := by
  cases dX : μ id with
  | none => rw [dX] at aI; have aI : n = 0 := aI; omega
  | some p =>
   obtain ⟨b0, tQ⟩ := p
   rw [dX] at aI
   obtain ⟨o, q1, q2⟩ := aI
   cases o with
   | cells BR e0 z =>
    obtain ⟨rfl, rfl, q3, q4⟩ := q2
    obtain ⟨v, r1, r2⟩ := q4 i j _ hi hj
    exact ⟨b0, tQ, BR, v, rfl, q1, q3, r1, r2, q4⟩
   | map es c =>
    obtain ⟨kp, vp, en, y1, y2, y3, _⟩ := q2.2 i hi
    rw [y1] at hj
    match j, hj with
    | 0, hj => simp at hj; rw [hj] at y2; cases y2
    | 1, hj => simp at hj; rw [hj] at y3; cases y3
    | y + 2, hj => simp at hj
   | _ => exact q2.elim
 obtain ⟨b0, tQ, BR, v, dX, Y1, mP, hv0, htv, iW⟩ := sP
 have MQ : ∀ b, F b → cA h id i j b := fun b hb => ⟨_, _, _, _, _, _, _, _, _, _, hh, hi, hj, hb⟩
 obtain ⟨p, hp⟩ : ∃ p : Option (Nat × Nat), match p with
   | none => v = .slice none 0 0 ∧ n' = 0
   | some (b, off) => F b ∧ ∃ (c : Nat) (a : Addr) (cur : Array Value), w.heap[b]? = some (.cells cur e' (0, 0)) ∧ v = .slice (some a) n' c ∧ n' ≤ c ∧ (0 < c → a = ⟨b, off, none⟩) ∧ off + c * bs ≤ cur.size ∧ (∀ i, i < n' → (f' i).length = bs) ∧
     (∀ (i j : Nat) (pv : PV), i < n' → (f' i)[j]? = some pv → ∃ u, cur[off + i * bs + j]? = some u ∧ (aE S w pv u ∨ ∃ s2 n2 e2 f2 F2, pv = .fm s2 n2 e2 f2 F2 ∧ jH S w (.fm s2 n2 e2 f2 F2) u)) ∧
     (∀ (i j lh n2 : Nat) (e2 : TypeId) (f2 : Nat → List PV) (F2 : Nat → Prop), i < n' → (f' i)[j]? = some (.fm lh n2 e2 f2 F2) → ∀ b', F2 b' → F b' ∧ b' ≠ b) ∧
     (∀ (i j lh n2 : Nat) (e2 : TypeId) (f2 : Nat → List PV) (F2 : Nat → Prop) (i' j' sz3 n3 : Nat) (e3 : TypeId) (f3 : Nat → List PV) (F3 : Nat → Prop), i < n' → (f' i)[j]? = some (.fm lh n2 e2 f2 F2) → i' < n' → (f' i')[j']? = some (.fm sz3 n3 e3 f3 F3) → ∀ b', F2 b' → F3 b' → i = i' ∧ j = j') := by
  cases htv with
  | nil _ _ _ _ hF => exact ⟨none, rfl, rfl⟩
  | vh _ _ _ _ _ b off c a cur vf hF hb hlen TX ha dT hcel ku rS xl BP =>
   refine ⟨some (b, off), hF, c, a, cur, hb, rfl, TX, ha, dT, hlen, fun i j pv hi hj => ⟨_, hcel i j pv hi hj, ?_⟩, xl, BP⟩
   rcases ku i j pv hi hj with q | ⟨s2, n2, e2, f2, F2, rfl⟩
   ·exact .inl q
   ·exact .inr ⟨s2, n2, e2, f2, F2, rfl, rS i j _ _ _ _ _ hi hj⟩
 have hpF : ∀ b off, p = some (b, off) → F b := fun b off hq => by subst hq; exact hp.1
 generalize Qo : h.set id (ak.row g sz n e f1) ++ [ak.row 0 bs n' e' f'] = h1
 have aqJ : h1.length = h.length + 1 := by rw [← Qo]; simp
 have qN : h1[id]? = some (ak.row g sz n e f1) := by rw [← Qo, art (by simpa using hid)]; simp [hid]
 have uC : h1[h.length]? = some (ak.row 0 bs n' e' f') := by rw [← Qo, arn atv]; simp
 have bR : ∀ k, k ≠ id → k < h.length → h1[k]? = h[k]? := fun k hk U1 => by rw [← Qo, art (by simpa using U1), arF (asa hk)]
 have inv : ∀ k o, h1[k]? = some o → (k = id ∧ o = ak.row g sz n e f1) ∨ (k = h.length ∧ o = ak.row 0 bs n' e' f') ∨ (k ≠ id ∧ k < h.length ∧ h[k]? = some o) := fun k o hk => by
  by_cases h2 : k = id
  ·subst h2; rw [qN] at hk; injection hk with hk; exact .inl ⟨rfl, hk.symm⟩
  ·by_cases h3 : k = h.length
   ·subst h3; rw [uC] at hk; injection hk with hk; exact .inr (.inl ⟨rfl, hk.symm⟩)
   ·have h4 : k < h.length := by have := (At.1 hk).1; omega
    rw [bR k h2 h4] at hk
    exact .inr (.inr ⟨h2, h4, hk⟩)
 let μ1 : Mu := la μ h.length p
 have we : μ1 h.length = p := bg _ _ _
 have k7 : ∀ k, k < h.length → μ1 k = μ k := fun k hk => de μ _ att
 have wg : ∀ x y pv, x < n → (f1 x)[y]? = some pv → ((x, y) = (i, j) ∧ pv = .own h.length 0 0 n') ∨ ((x, y) ≠ (i, j) ∧ (f x)[y]? = some pv) := fun x y pv hx hy => by
  by_cases hxi : x = i
  ·subst hxi
   rw [EF, asv] at hy
   by_cases hyj : j = y
   ·subst hyj
    rw [if_pos rfl, if_pos (by rw [hl x hx]; exact AU)] at hy
    injection hy with hy
    exact .inl ⟨rfl, hy.symm⟩
   ·rw [if_neg hyj] at hy
    exact .inr ⟨fun q => hyj (by injection q with _ q; exact q.symm), hy⟩
  ·rw [MJ x hx hxi] at hy
   exact .inr ⟨fun q => hxi (by injection q), hy⟩
 have ez : ∀ k x y b, cA h1 k x y b → (k ≠ h.length ∧ ¬ (k = id ∧ x = i ∧ y = j) ∧ cA h k x y b) ∨ (k = h.length ∧ cA h id i j b ∧ ∃ lh n2 e2 f2 F2, x < n' ∧ (f' x)[y]? = some (.fm lh n2 e2 f2 F2) ∧ F2 b) := fun k x y b ⟨g2, s2, n2, e2, f2, s3, n3, e3, f3, F3, q1, q2, q3, q4⟩ => by
  rcases inv k _ q1 with ⟨rfl, ho⟩ | ⟨rfl, ho⟩ | ⟨h2, h3, h4⟩
  ·injection ho with a1 a2 a3 a4 a5
   subst a1 a2 a3 a4 a5
   rcases wg x y _ q2 q3 with ⟨_, hq⟩ | ⟨nr, hq⟩
   ·cases hq
   ·exact .inl ⟨by omega, fun ⟨_, b1, b2⟩ => nr (by rw [b1, b2]), _, _, _, _, _, _, _, _, _, _, hh, q2, hq, q4⟩
  ·injection ho with a1 a2 a3 a4 a5
   subst a1 a2 a3 a4 a5
   refine .inr ⟨rfl, MQ b ?_, _, _, _, _, _, q2, q3, q4⟩
   cases p with
   | none => have := hp.2; omega
   | some pp =>
    obtain ⟨pb, aaX⟩ := pp
    obtain ⟨_, _, _, _, _, _, _, _, _, _, _, hs, _⟩ := hp
    exact (hs x y _ _ _ _ _ q2 q3 b q4).1
  ·exact .inl ⟨by omega, fun ⟨b1, _⟩ => h2 b1, _, _, _, _, _, _, _, _, _, _, h4, q2, q3, q4⟩
 have wh : ∀ b, w8 μ1 h1 b → w8 μ h b ∨ (∃ off, p = some (b, off)) := fun b ⟨k, g2, s2, n2, e2, f2, base, q1, q2⟩ => by
  rcases inv k _ q1 with ⟨rfl, ho⟩ | ⟨rfl, ho⟩ | ⟨h2, h3, h4⟩
  ·rw [k7 k hid] at q2
   exact .inl ⟨k, _, _, _, _, _, _, hh, q2⟩
  ·rw [we] at q2
   exact .inr ⟨base, q2⟩
  ·rw [k7 k h3] at q2
   exact .inl ⟨k, _, _, _, _, _, _, h4, q2⟩
 have kh : ∀ b, bH μ1 h1 b → bH μ h b := fun b hb => by
  rcases hb with hb | ⟨k, x, y, hb⟩
  ·rcases wh b hb with q | ⟨off, q⟩
   ·exact .inl q
   ·exact .inr ⟨_, _, _, MQ b (hpF b off q)⟩
  ·rcases ez k x y b hb with ⟨_, _, q⟩ | ⟨_, q, _⟩
   ·exact ats
   ·exact ats
 have ji : Fr μ h S w μ1 h1 S w := by
  refine ⟨by omega, fun _ _ _ => rfl, fun _ hb => hb, fun _ hb => .inl hb, fun b hb => .inl (kh b hb), aqP _, rfl, rfl, rfl, fun k g2 s2 n2 e2 f2 hk => ?_, fun k hk => ?_, fun _ _ _ hc => hc, fun k g2 s2 n2 e2 f2 b base hk hm kY => ⟨kY, .inr ⟨?_, ?_⟩⟩, fun _ _ _ _ _ kY => kY⟩
  ·have U1 := (At.1 hk).1
   by_cases sT : k = id
   ·subst sT
    rw [hh] at hk
    injection hk with hk
    injection hk with a1 a2 a3 a4 a5
    subst a1 a2 a3 a4 a5
    rw [qN]
    exact ⟨aqP _, fun _ => ⟨k7 _ hid, rfl, rfl, rfl⟩⟩
   ·rw [bR k sT U1, hk]
    exact ⟨aqP _, fun _ => ⟨k7 k U1, rfl, rfl, rfl⟩⟩
  ·have U1 := (At.1 hk).1
   rw [bR k (by rintro rfl; rw [hh] at hk; cases hk) U1]; exact hk
  ·have U1 := (At.1 hk).1
   by_cases sT : k = id
   ·subst sT; exact ⟨_, _, _, _, _, qN⟩
   ·exact ⟨_, _, _, _, _, (bR k sT U1).trans hk⟩
  ·rw [k7 k (At.1 hk).1]; exact hm
 refine ⟨μ1, ji, ⟨fun k g2 s2 n2 e2 f2 hk => ?_, ⟨fun b hb => hc.ok.apart b (kh b hb), fun b hb => hc.ok.lt b (kh b hb), hc.ok.slt, ?_, hc.ok.known, fun b hb k x y hx => ?_, fun b k x y k' x' y' hx qB => ?_⟩⟩⟩
 ·rcases inv k _ hk with ⟨rfl, ho⟩ | ⟨rfl, ho⟩ | ⟨h2, h3, h4⟩
  ·injection ho with a1 a2 a3 a4 a5
   subst a1 a2 a3 a4 a5
   refine ⟨fun x hx => ?_, ?_⟩
   ·by_cases hxi : x = i
    ·subst hxi; rw [EF, aso]; exact hl x hx
    ·rw [MJ x hx hxi]; exact hl x hx
   ·rw [k7 k hid, dX]
    refine ⟨_, Y1, rfl, rfl, mP, fun x y pv hx hy => ?_⟩
    rcases wg x y pv hx hy with ⟨hq, rfl⟩ | ⟨_, hq⟩
    ·injection hq with r1 r2
     subst r1 r2
     refine ⟨v, hv0, ?_⟩
     show aV μ1 h1 w h.length 0 0 n' v
     unfold aV
     rw [uC]
     cases p with
     | none =>
      obtain ⟨rfl, rfl⟩ := hp
      exact ⟨⟨_, _, _, rfl⟩, aqP _, fun _ => ⟨aqP _, by rw [we]⟩⟩
     | some pp =>
      obtain ⟨pb, aaX⟩ := pp
      obtain ⟨_, c, a, cur, t1, rfl, t3, t4, t5, _⟩ := hp
      refine ⟨⟨_, _, _, rfl⟩, aqP _, fun _ => ⟨by omega, ?_⟩⟩
      rw [we]
      exact ⟨a, c, rfl, t3, fun h0 => by rw [t4 h0]; simp, cur, e', _, t1, by rw [ard]; exact t5⟩
    ·obtain ⟨u, r1, r2⟩ := iW x y pv hx hq
     exact ⟨u, r1, r2.fr ji hc.ok (fun _ _ _ _ _ _ _ _ => rfl)⟩
  ·injection ho with a1 a2 a3 a4 a5
   subst a1 a2 a3 a4 a5
   rw [we]
   cases p with
   | none => exact ⟨fun x hx => by have := hp.2; omega, hp.2⟩
   | some pp =>
    obtain ⟨pb, aaX⟩ := pp
    obtain ⟨_, c, a, cur, t1, _, t3, _, t5, t6, t7, _, _⟩ := hp
    refine ⟨t6, _, t1, rfl, rfl, arN (Nat.add_le_add_left (ari _ t3) _) t5, fun x y pv hx hy => ?_⟩
    obtain ⟨u, r1, r2⟩ := t7 x y pv hx hy
    refine ⟨u, r1, ?_⟩
    rcases r2 with r2 | ⟨_, _, _, _, _, rfl, r2⟩
    ·exact (bm.jd r2).k (aE.no r2)
    ·exact r2
  ·obtain ⟨q1, q2⟩ := hc.heap k _ _ _ _ _ h4
   refine ⟨q1, ?_⟩
   rw [k7 k h3]
   cases hm : μ k with
   | none => rw [hm] at q2; exact q2
   | some pp =>
    obtain ⟨b, base⟩ := pp
    rw [hm] at q2
    obtain ⟨o, r1, r2⟩ := q2
    exact ⟨o, r1, r2.mono (fun _ _ _ _ _ _ hr => hr.fr ji hc.ok (fun _ _ _ _ _ _ _ _ => rfl))⟩
 ·intro a b ga sa na ea fa gb sb nb eb fb vh o o' ha hb hma kY
  have Dl : ∀ k gk sk nk ek fk oo, h1[k]? = some (ak.row gk sk nk ek fk) → μ1 k = some (vh, oo) → (k = h.length ∧ F vh) ∨ (k < h.length ∧ ∃ gk sk nk ek fk, h[k]? = some (ak.row gk sk nk ek fk) ∧ μ k = some (vh, oo)) := fun k gk sk nk ek fk oo hk hm => by
   rcases inv k _ hk with ⟨rfl, ho⟩ | ⟨rfl, ho⟩ | ⟨h2, h3, h4⟩
   ·rw [k7 k hid] at hm; exact .inr ⟨hid, _, _, _, _, _, hh, hm⟩
   ·rw [we] at hm; exact .inl ⟨rfl, hpF _ _ hm⟩
   ·rw [k7 k h3] at hm; exact .inr ⟨h3, _, _, _, _, _, h4, hm⟩
  rcases Dl a _ _ _ _ _ _ ha hma with ⟨rfl, q⟩ | ⟨q0, _, _, _, _, _, q1, q2⟩
  ·rcases Dl b _ _ _ _ _ _ hb kY with ⟨rfl, _⟩ | ⟨r0, _, _, _, _, _, r1, r2⟩
   ·rfl
   ·exact absurd (MQ vh q) (hc.ok.hv vh ⟨b, _, _, _, _, _, _, r1, r2⟩ _ _ _)
  ·rcases Dl b _ _ _ _ _ _ hb kY with ⟨rfl, r⟩ | ⟨r0, _, _, _, _, _, r1, r2⟩
   ·exact absurd (MQ vh r) (hc.ok.hv vh ⟨a, _, _, _, _, _, _, q1, q2⟩ _ _ _)
   ·exact hc.ok.inj a b _ _ _ _ _ _ _ _ _ _ _ _ _ q1 r1 q2 r2
 ·rcases wh b hb with q | ⟨off, q⟩
  ·rcases ez k x y b hx with ⟨_, _, r⟩ | ⟨_, r, _⟩
   ·exact hc.ok.hv b q _ _ _ r
   ·exact hc.ok.hv b q _ _ _ r
  ·rcases ez k x y b hx with ⟨_, nr, r⟩ | ⟨_, r, lh, n2, e2, f2, F2, r1, r2, r3⟩
   ·exact nr (hc.ok.hh b _ _ _ _ _ _ r (MQ b (hpF b off q)))
   ·subst q
    obtain ⟨_, _, _, _, _, _, _, _, _, _, _, hs, _⟩ := hp
    exact (hs x y _ _ _ _ _ r1 r2 b r3).2 rfl
 ·rcases ez k x y b hx with ⟨k1, nr, r⟩ | ⟨rfl, r, lh, n2, e2, f2, F2, r1, r2, r3⟩
  ·rcases ez k' x' y' b qB with ⟨k2, hne', r'⟩ | ⟨rfl, r', _⟩
   ·exact hc.ok.hh b _ _ _ _ _ _ r r'
   ·exact absurd (hc.ok.hh b _ _ _ _ _ _ r r') nr
  ·rcases ez k' x' y' b qB with ⟨k2, hne', r'⟩ | ⟨rfl, r', sz3, n3, e3, f3, F3, t1, t2, t3⟩
   ·exact absurd (hc.ok.hh b _ _ _ _ _ _ r' r) hne'
   ·cases p with
    | none => have := hp.2; omega
    | some pp =>
     obtain ⟨pb, aaX⟩ := pp
     obtain ⟨_, _, _, _, _, _, _, _, _, _, _, _, hd⟩ := hp
     obtain ⟨e1, e2⟩ := hd x y _ _ _ _ _ x' y' _ _ _ _ _ r1 r2 t1 t2 b r3 t3
     exact ⟨rfl, e1, e2⟩
def FAb (μ : Mu) (h : List ak) (sub : Nat) (b : Nat) : Prop := (∃ g sz n e f base, h[sub]? = some (ak.row g sz n e f) ∧ μ sub = some (b, base)) ∨ ∃ x y, cA h sub x y b
theorem EI (hc : Core μ h S w) {id i j sub : Nat} (hx : Dq h id i j sub (FAb μ h sub) h1) : Fr μ h S w μ h1 S w ∧ Core μ h1 S w := by
 obtain ⟨g, sz, n, e, f, g2, lh, n2, e2, f2, f1, hh, hs, nr, hi, hj, hpu, EF, MJ, rfl⟩ := hx
 have hid : id < h.length := (At.1 hh).1
 have KL : sub < h.length := (At.1 hs).1
 obtain ⟨hl, aI⟩ := hc.heap id g sz n e f hh
 have AU : j < sz := by rw [← hl i hi]; exact (At.1 hj).1
 generalize hFF : FAb μ h sub = F
 rw [hFF] at EF
 have am7 : ∀ b, F b → bH μ h b := fun b hb => by
  rw [← hFF] at hb
  rcases hb with ⟨g, sz, n, e, f, base, q1, q2⟩ | ⟨x, y, q⟩
  ·exact .inl ⟨sub, _, _, _, _, _, _, q1, q2⟩
  ·exact ats
 generalize Qo : (h.set id (ak.row g sz n e f1)).set sub ak.dead = h1
 have qN : h1[id]? = some (ak.row g sz n e f1) := by rw [← Qo, arF (asa nr)]; simp [hid]
 have uE : h1[sub]? = some ak.dead := by rw [← Qo, asb (by simpa using KL)]
 have bR : ∀ k, k ≠ id → k ≠ sub → h1[k]? = h[k]? := fun k h2 h3 => by rw [← Qo, arF (asa h3), arF (asa h2)]
 have inv : ∀ k gk sk nk ek fk, h1[k]? = some (ak.row gk sk nk ek fk) → k ≠ sub ∧ ((k = id ∧ ak.row gk sk nk ek fk = ak.row g sz n e f1) ∨ (k ≠ id ∧ h[k]? = some (ak.row gk sk nk ek fk))) := fun k gk sk nk ek fk hk => by
  have h3 : k ≠ sub := by rintro rfl; rw [uE] at hk; cases hk
  refine ⟨h3, ?_⟩
  by_cases h2 : k = id
  ·subst h2; rw [qN] at hk; injection hk with hk; exact .inl ⟨rfl, hk.symm⟩
  ·rw [bR k h2 h3] at hk; exact .inr ⟨h2, hk⟩
 have wg : ∀ x y pv, x < n → (f1 x)[y]? = some pv → ((x = i ∧ y = j) ∧ pv = .fm lh n2 e2 f2 F) ∨ (¬ (x = i ∧ y = j) ∧ (f x)[y]? = some pv) := fun x y pv hx hy => by
  by_cases hxi : x = i
  ·subst hxi
   rw [EF, asv] at hy
   by_cases hyj : j = y
   ·subst hyj
    rw [if_pos rfl, if_pos (by rw [hl x hx]; exact AU)] at hy
    injection hy with hy
    exact .inl ⟨⟨rfl, rfl⟩, hy.symm⟩
   ·rw [if_neg hyj] at hy
    exact .inr ⟨fun q => hyj q.2.symm, hy⟩
  ·rw [MJ x hx hxi] at hy
   exact .inr ⟨fun q => hxi q.1, hy⟩
 have ez : ∀ k x y b, cA h1 k x y b → (k = id ∧ x = i ∧ y = j ∧ F b) ∨ (k ≠ sub ∧ ¬ (k = id ∧ x = i ∧ y = j) ∧ cA h k x y b) := fun k x y b ⟨g3, s3, n3, e3, f3, s4, n4, e4, f4, F4, q1, q2, q3, q4⟩ => by
  obtain ⟨h3, hq⟩ := inv k _ _ _ _ _ q1
  rcases hq with ⟨rfl, ho⟩ | ⟨h2, h4⟩
  ·injection ho with a1 a2 a3 a4 a5
   subst a1 a2 a3 a4 a5
   rcases wg x y _ q2 q3 with ⟨⟨r1, r2⟩, hq⟩ | ⟨hne', hq⟩
   ·injection hq with _ _ _ _ hq
    subst hq
    exact .inl ⟨rfl, r1, r2, q4⟩
   ·exact .inr ⟨h3, fun ⟨_, b1⟩ => hne' b1, _, _, _, _, _, _, _, _, _, _, hh, q2, hq, q4⟩
  ·exact .inr ⟨h3, fun ⟨b1, _⟩ => h2 b1, _, _, _, _, _, _, _, _, _, _, h4, q2, q3, q4⟩
 have wh : ∀ b, w8 μ h1 b → ∃ k gk sk nk ek fk base, k ≠ sub ∧ h[k]? = some (ak.row gk sk nk ek fk) ∧ μ k = some (b, base) := fun b ⟨k, g3, s3, n3, e3, f3, base, q1, q2⟩ => by
  obtain ⟨h3, hq⟩ := inv k _ _ _ _ _ q1
  rcases hq with ⟨rfl, ho⟩ | ⟨h2, h4⟩
  ·exact ⟨k, _, _, _, _, _, _, h3, hh, q2⟩
  ·exact ⟨k, _, _, _, _, _, _, h3, h4, q2⟩
 have kh : ∀ b, bH μ h1 b → bH μ h b := fun b hb => by
  rcases hb with hb | ⟨k, x, y, hb⟩
  ·obtain ⟨k, _, _, _, _, _, _, _, q1, q2⟩ := wh b hb
   exact .inl ⟨k, _, _, _, _, _, _, q1, q2⟩
  ·rcases ez k x y b hb with ⟨_, _, _, q⟩ | ⟨_, _, q⟩
   ·exact am7 b q
   ·exact ats
 have ji : Fr μ h S w μ h1 S w := by
  refine ⟨by rw [← Qo]; simp, fun _ _ _ => rfl, fun _ hb => hb, fun _ hb => .inl hb, fun b hb => .inl (kh b hb), aqP _, rfl, rfl, rfl, fun k g3 s3 n3 e3 f3 hk => ?_, fun k hk => ?_, fun _ _ _ hc => hc, fun k g3 s3 n3 e3 f3 b base hk hm kY => ⟨kY, ?_⟩, fun _ _ _ _ _ kY => kY⟩
  ·by_cases sT : k = id
   ·subst sT
    rw [hh] at hk
    injection hk with hk
    injection hk with a1 a2 a3 a4 a5
    subst a1 a2 a3 a4 a5
    rw [qN]
    exact ato
   ·by_cases wH : k = sub
    ·subst wH; rw [uE]; trivial
    ·rw [bR k sT wH, hk]
     exact ato
  ·by_cases wH : k = sub
   ·subst wH; exact uE
   ·rw [bR k (by rintro rfl; rw [hh] at hk; cases hk) wH]; exact hk
  ·by_cases wH : k = sub
   ·subst wH; exact .inl uE
   ·refine .inr ⟨?_, hm⟩
    by_cases sT : k = id
    ·subst sT; exact ⟨_, _, _, _, _, qN⟩
    ·exact ⟨_, _, _, _, _, (bR k sT wH).trans hk⟩
 have U2 : ∀ k x y b, k ≠ sub → cA h k x y b → ¬ F b := fun k x y b hk hx hF => by
  rw [← hFF] at hF
  rcases hF with ⟨_, _, _, _, _, _, q1, q2⟩ | ⟨_, _, q⟩
  ·exact hc.ok.hv b ⟨sub, _, _, _, _, _, _, q1, q2⟩ _ _ _ hx
  ·exact hk (hc.ok.hh b _ _ _ _ _ _ hx q).1
 refine ⟨ji, ⟨fun k g3 s3 n3 e3 f3 hk => ?_, ⟨fun b hb => hc.ok.apart b (kh b hb), fun b hb => hc.ok.lt b (kh b hb), hc.ok.slt, ?_, hc.ok.known, fun b hb k x y hx => ?_, fun b k x y k' x' y' hx qB => ?_⟩⟩⟩
 ·obtain ⟨h3, hq⟩ := inv k _ _ _ _ _ hk
  rcases hq with ⟨rfl, ho⟩ | ⟨h2, h4⟩
  ·injection ho with a1 a2 a3 a4 a5
   subst a1 a2 a3 a4 a5
   refine ⟨fun x hx => ?_, ?_⟩
   ·by_cases hxi : x = i
    ·subst hxi; rw [EF, aso]; exact hl x hx
    ·rw [MJ x hx hxi]; exact hl x hx
   ·cases dX : μ k with
    | none => rw [dX] at aI; exact aI
    | some p =>
     obtain ⟨b0, tQ⟩ := p
     rw [dX] at aI
     obtain ⟨o, q1, q2⟩ := aI
     refine ⟨o, q1, ?_⟩
     cases o with
     | cells BR e0 z =>
      obtain ⟨rfl, rfl, q3, q4⟩ := q2
      refine ⟨rfl, rfl, q3, fun x y pv hx hy => ?_⟩
      rcases wg x y pv hx hy with ⟨⟨rfl, rfl⟩, rfl⟩ | ⟨_, hq⟩
      ·obtain ⟨v, r1, r2⟩ := q4 x y _ hx hj
       refine ⟨v, r1, ?_⟩
       show jH S w (.fm lh n2 e2 f2 F) v
       have r2 : aV μ h w sub g2 0 n2 v := r2
       unfold aV at r2
       rw [hs] at r2
       obtain ⟨_, _, r3⟩ := r2
       obtain ⟨_, r4⟩ := r3 rfl
       obtain ⟨s1, s2⟩ := hc.heap sub _ _ _ _ _ hs
       cases hms : μ sub with
       | none =>
        rw [hms] at r4 s2
        have s2 : n2 = 0 := s2
        have r4 : v = .slice none 0 0 := r4
        subst s2 r4
        refine .nil _ _ _ _ (fun b hb => ?_)
        rw [← hFF] at hb
        rcases hb with ⟨_, _, _, _, _, _, _, t2⟩ | ⟨x', y', t1, t2, t3, t4, t5, t6, t7, t8, t9, t10, u1, u2, u3, u4⟩
        ·rw [hms] at t2; cases t2
        ·rw [hs] at u1
         injection u1 with u1
         injection u1 with _ _ u1 _ _
         omega
       | some p =>
        obtain ⟨b, base⟩ := p
        rw [hms] at r4 s2
        obtain ⟨a, cap, rfl, t2, t3, t4⟩ := r4
        obtain ⟨cur, u1, u2, u3⟩ := bw.cells t4 s2
        have dT : base + cap * lh ≤ cur.size := by
         obtain ⟨CM, e', z', p1, p2⟩ := t4
         rw [u1] at p1
         injection p1 with p1
         injection p1 with p1 _ _
         subst p1
         rw [ard] at p2
         exact p2
        have vis : w8 μ h b := ⟨sub, _, _, _, _, _, _, hs, hms⟩
        have aaY : ∀ (x y s5 n5 : Nat) (e5 : TypeId) (f5 : Nat → List PV) (F5 : Nat → Prop), x < n2 → (f2 x)[y]? = some (.fm s5 n5 e5 f5 F5) → ∀ b', F5 b' → cA h sub x y b' := fun x y s5 n5 e5 f5 F5 hx hy b' kr => ⟨_, _, _, _, _, _, _, _, _, _, hs, hx, hy, kr⟩
        refine .vh lh n2 e2 f2 F b base cap a cur (fun x y => (cur[base + x * lh + y]?).getD undef) (by rw [← hFF]; exact .inl ⟨_, _, _, _, _, _, hs, hms⟩) u1 s1 t2 (fun h0 => by rw [t3 h0]; simp) dT (fun x y pv hx hy => ?_) (fun x y pv hx hy => ?_) (fun x y s5 n5 e5 f5 F5 hx hy => ?_) (fun x y s5 n5 e5 f5 F5 hx hy b' kr => ?_) (fun x y s5 n5 e5 f5 F5 x' y' s6 n6 e6 f6 F6 hx hy qB hy' b' kr xA => ?_)
        ·obtain ⟨u, w1, _⟩ := u3 x y pv hx hy
         rw [w1]; rfl
        ·obtain ⟨u, w1, w2⟩ := u3 x y pv hx hy
         rw [w1]
         rcases hpu x hx pv (arh hy) with z1 | z1
         ·exact .inl (th z1 w2.c)
         ·exact .inr (by cases pv <;> first | exact ⟨_, _, _, _, _, rfl⟩ | cases z1)
        ·obtain ⟨u, w1, w2⟩ := u3 x y _ hx hy
         rw [w1]
         exact w2
        ·have hq := aaY x y s5 n5 e5 f5 F5 hx hy b' kr
         refine ⟨by rw [← hFF]; exact .inr ⟨_, _, hq⟩, ?_⟩
         rintro rfl
         exact hc.ok.hv b' vis _ _ _ hq
        ·exact (hc.ok.hh b' _ _ _ _ _ _ (aaY x y s5 n5 e5 f5 F5 hx hy b' kr) (aaY x' y' s6 n6 e6 f6 F6 qB hy' b' xA)).2
      ·obtain ⟨u, r1, r2⟩ := q4 x y pv hx hq
       exact ⟨u, r1, r2.fr ji hc.ok (fun _ _ _ _ _ _ _ _ => rfl)⟩
     | map es c =>
      obtain ⟨kp, vp, en, y1, y2, y3, _⟩ := q2.2 i hi
      rw [y1] at hj
      match j, hj with
      | 0, hj => simp at hj; rw [hj] at y2; cases y2
      | 1, hj => simp at hj; rw [hj] at y3; cases y3
      | y + 2, hj => simp at hj
     | _ => exact q2.elim
  ·obtain ⟨q1, q2⟩ := hc.heap k _ _ _ _ _ h4
   refine ⟨q1, ?_⟩
   cases hm : μ k with
   | none => rw [hm] at q2; exact q2
   | some pp =>
    obtain ⟨b, base⟩ := pp
    rw [hm] at q2
    obtain ⟨o, r1, r2⟩ := q2
    exact ⟨o, r1, r2.mono (fun _ _ _ _ _ _ hr => hr.fr ji hc.ok (fun _ _ _ _ _ _ _ _ => rfl))⟩
 ·intro a b ga sa na ea fa gb sb nb eb fb vh o o' ha hb hma kY
  have Dl : ∀ k gk sk nk ek fk, h1[k]? = some (ak.row gk sk nk ek fk) → ∃ gk sk nk ek fk, h[k]? = some (ak.row gk sk nk ek fk) := fun k gk sk nk ek fk hk => by
   rcases (inv k _ _ _ _ _ hk).2 with ⟨rfl, _⟩ | ⟨_, q⟩
   ·exact ⟨_, _, _, _, _, hh⟩
   ·exact ⟨_, _, _, _, _, q⟩
  obtain ⟨_, _, _, _, _, q1⟩ := Dl a _ _ _ _ _ ha
  obtain ⟨_, _, _, _, _, q2⟩ := Dl b _ _ _ _ _ hb
  exact hc.ok.inj a b _ _ _ _ _ _ _ _ _ _ _ _ _ q1 q2 hma kY
 ·obtain ⟨k0, _, _, _, _, _, _, q0, q1, q2⟩ := wh b hb
  rcases ez k x y b hx with ⟨_, _, _, q⟩ | ⟨_, _, q⟩
  ·rw [← hFF] at q
   rcases q with ⟨_, _, _, _, _, _, r1, r2⟩ | ⟨_, _, r⟩
   ·exact q0 (hc.ok.inj k0 sub _ _ _ _ _ _ _ _ _ _ _ _ _ q1 r1 q2 r2)
   ·exact hc.ok.hv b ⟨k0, _, _, _, _, _, _, q1, q2⟩ _ _ _ r
  ·exact hc.ok.hv b ⟨k0, _, _, _, _, _, _, q1, q2⟩ _ _ _ q
 ·rcases ez k x y b hx with ⟨rfl, rfl, rfl, q⟩ | ⟨k1, _, q⟩
  ·rcases ez k' x' y' b qB with ⟨rfl, rfl, rfl, _⟩ | ⟨k2, _, r⟩
   ·exact ⟨rfl, rfl, rfl⟩
   ·exact absurd q (U2 _ _ _ _ k2 r)
  ·rcases ez k' x' y' b qB with ⟨rfl, rfl, rfl, r⟩ | ⟨k2, _, r⟩
   ·exact absurd r (U2 _ _ _ _ k1 q)
   ·exact hc.ok.hh b _ _ _ _ _ _ q r
variable {C : Start} {env : Env} {a : Act}
theorem kk.turn (hs : kk C μ h S env a w) {μ' : Mu} (hf : Fr μ h S w μ' h1 S w) (hc : Core μ' h1 S w) : kk C μ' h1 S env a w :=
 ⟨hc, hs.fr.trans hf, fun t => (hs.tmps t).fr hf hs.core.ok, hs.size, hs.far, hs.defers⟩
theorem kk.ex (hs : kk C μ h S env a w) (hx : Dp h h1) : ∃ μ', kk C μ' h1 S env a w := by
 obtain ⟨μ', hf, hc⟩ := EH hs.core hx
 exact ⟨μ', hs.turn hf hc⟩
theorem kk.ab (hs : kk C μ h S env a w) {id i j sub : Nat} {h1 : (Nat → Prop) → List ak} (ha : ∀ F, Dq h id i j sub F (h1 F)) : ∃ F, kk C μ (h1 F) S env a w := by
 obtain ⟨hf, hc⟩ := EI hs.core (ha (FAb μ h sub))
 exact ⟨_, hs.turn hf hc⟩
end
end Go.Am
