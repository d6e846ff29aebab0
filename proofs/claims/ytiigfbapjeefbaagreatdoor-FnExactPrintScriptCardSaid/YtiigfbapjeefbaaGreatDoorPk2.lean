/- Texts of the proof, joined and shortened. -/
import Derived.Test.YtiigfbapjeefbaaGreatDoorPk1
import Derived.MapKept
import Derived.Lib.ConvBytes
import Derived.Lib.AtoiErrMem
import Derived.Deep.LoopGhost
set_option linter.unusedVariables false
set_option linter.unusedSimpArgs false
namespace Go.Am
open Go Go.RowKit
section
variable {P : Program} {T : lO} {μ : Mu} {h : List ar} {S : Nat → Prop} {w : World}
theorem mj (t tx ty e : TypeId) (i : TypeInfo) (d : TypeDesc) (ht : P.underlying t = some (.slice e)) (hx : P.underlying tx = some d) (hd : (∃ e', d = .slice e') ∨ d = .string) (hi : P.info? e = some i)
  (sa : Option Addr) (lM ug : Nat) (xv : Value) (m : Nat) (news : Array Value) (w' : World) (hlen : (Builtin.lenOf xv).run P w = .ok m w) (hfc : (Builtin.firstCells i.size m xv).run P w = .ok news w) (sX : lM + m ≤ ug)
  (rP : match sa with | some a => (storeCells (a.add (lM * i.size)) news.toList).run P w = .ok () w' | none => w' = w) :
  (Builtin.append_ #[t, tx] ty #[.slice sa lM ug, xv]).run P w = .ok (.slice sa (lM + m) ug) w' := by
 rcases hd with ⟨e', rfl⟩ | rfl <;> cases sa with
 | none =>
  have rP : w' = w := rP
  subst rP
  simp [Builtin.append_, run_underlying ht, run_underlying hx, sizeOf, typeInfo, hi, hlen, sX, hfc]
 | some a =>
  have rP : (storeCells (a.add (lM * i.size)) news.toList).run P w = .ok () w' := rP
  simp [Builtin.append_, run_underlying ht, run_underlying hx, sizeOf, typeInfo, hi, hlen, sX, hfc, rP]
theorem oL (t tx ty e : TypeId) (i : TypeInfo) (z : Value) (d : TypeDesc) (ht : P.underlying t = some (.slice e)) (hx : P.underlying tx = some d) (hd : (∃ e', d = .slice e') ∨ d = .string) (hi : P.info? e = some i) (hz : i.zero = some z)
  (sa : Option Addr) (lM ug : Nat) (xv : Value) (m : Nat) (vt news : Array Value) (hlen : (Builtin.lenOf xv).run P w = .ok m w) (DS : (Builtin.firstCells i.size lM (.slice sa lM ug)).run P w.drew = .ok vt w.drew)
  (hfc : (Builtin.firstCells i.size m xv).run P w.drew = .ok news w.drew) (hg : ug < lM + m) (hb0 : 0 < i.bytes) (ny : (lM + m) * i.bytes ≤ 140737488355328) :
  (Builtin.append_ #[t, tx] ty #[.slice sa lM ug, xv]).run P w = .ok (.slice (some ⟨w.heap.size, 0, none⟩) (lM + m) (grownCap w (lM + m) ug e))
   (w.drew.alloc (.cells (vt ++ news ++ Builtin.zeroCells z.cells (grownCap w (lM + m) ug e - (lM + m))) e)) := by
 have hn : ¬ (lM + m ≤ ug) := by omega
 have hle : lM + m ≤ (lM + m) * i.bytes := Nat.le_mul_of_pos_right _ hb0
 have aaN : ¬ (9223372036854775807 < ((lM : Int) + (m : Int))) := by omega
 have ass := growslice_fits hg ny
 have asb : ¬ (281474976710656 < Builtin.nextslicecap (lM + m) ug * i.bytes) := by omega
 rcases hd with ⟨e', rfl⟩ | rfl <;>
  simp [Builtin.append_, run_underlying ht, run_underlying hx, sizeOf, typeInfo, zeroValue, hi, hz, hlen, hn, aaN, asb, Question.forced, hfc, DS, newRow, grownCap]
theorem CS (b off m sz : Nat) (fQ : 0 < sz) (g : Nat → List PV) (hl : ∀ i, i < m → (g i).length = sz)
  (aJ : ∀ (i j : Nat) (pv : PV), i < m → (g i)[j]? = some pv → ∃ u, w.cell? ⟨b, off + i * sz + j, none⟩ = some u ∧ lz μ h S w pv u) :
  ∃ news : Array Value, news.size = m * sz ∧ (∀ (i j : Nat) (pv : PV), i < m → (g i)[j]? = some pv → ∃ u, news[i * sz + j]? = some u ∧ lz μ h S w pv u) ∧
   (∀ u ∈ news.toList, u.oneCell' = true) ∧ ∀ w', bK w w' → (loadCells ⟨b, off, none⟩ (m * sz)).run P w' = .ok news w' := by
 let F : Nat → Value := fun q => (w.cell? ⟨b, off + q, none⟩).getD undef
 have hF : ∀ (i j : Nat) (pv : PV), i < m → (g i)[j]? = some pv → w.cell? ⟨b, off + (i * sz + j), none⟩ = some (F (i * sz + j)) ∧ lz μ h S w pv (F (i * sz + j)) := fun i j pv hi hj => by
  obtain ⟨u, h1, h2⟩ := aJ i j pv hi hj
  have e : off + (i * sz + j) = off + i * sz + j := by omega
  have e2 : F (i * sz + j) = u := by
   show (w.cell? ⟨b, off + (i * sz + j), none⟩).getD undef = u
   rw [e, h1]; rfl
  rw [e2, e]
  exact ⟨h1, h2⟩
 have hq : ∀ q, q < m * sz → ∃ pv, q / sz < m ∧ (g (q / sz))[q % sz]? = some pv := fun q hq => by
  have h1 : q / sz < m := (Nat.div_lt_iff_lt_mul fQ).2 hq
  have h2 : q % sz < (g (q / sz)).length := by rw [hl _ h1]; exact Nat.mod_lt _ fQ
  exact ⟨_, h1, amb h2⟩
 have zf : ∀ q, q / sz * sz + q % sz = q := fun q => by rw [Nat.mul_comm]; exact Nat.div_add_mod q sz
 refine ⟨((List.range (m * sz)).map F).toArray, by simp, fun i j pv hi hj => ?_, fun u hu => ?_, fun w' ha => ?_⟩
 ·have B3 : j < sz := by rw [← hl i hi]; exact (At.1 hj).1
  have cM : i * sz + j < m * sz := by
   have : (i + 1) * sz ≤ m * sz := asQ _ hi
   rw [asX] at this
   omega
  exact ⟨F (i * sz + j), by simp [cM], (hF i j pv hi hj).2⟩
 ·simp only [asR, atO] at hu
  obtain ⟨q, hql, rfl⟩ := hu
  obtain ⟨pv, h1, h2⟩ := hq q hql
  have := (hF _ _ pv h1 h2).2.c.one
  rwa [zf] at this
 ·refine run_loadCells w' ⟨b, off, none⟩ (m * sz) F fun q hql => ?_
  obtain ⟨pv, h1, h2⟩ := hq q hql
  have := (hF _ _ pv h1 h2).1
  rw [zf] at this
  rw [Addr.add_lit]
  exact ha.cell this
theorem FY : ∀ {l : List PV}, noO l = true → ∀ {j : Nat} {pv : PV}, l[j]? = some pv → eL pv = false
 | [], _, j, pv, hj => by simp at hj
 | c :: r, h, 0, pv, hj => by
  simp at hj
  subst hj
  cases c <;> first | rfl | cases h
 | c :: r, h, j + 1, pv, hj => FY (l := r) (by cases c <;> first | exact h | cases h) avr
def Src (P : Program) (μ : Mu) (h : List ar) (S : Nat → Prop) (w : World) (xv : Value) (sz m : Nat) (g : Nat → List PV) : Prop :=
 (∀ i, i < m → (g i).length = sz) ∧ ∃ news : Array Value, news.size = m * sz ∧ (∀ (i j : Nat) (pv : PV), i < m → (g i)[j]? = some pv → ∃ u, news[i * sz + j]? = some u ∧ lz μ h S w pv u) ∧
  (∀ u ∈ news.toList, u.oneCell' = true) ∧ ∀ w', bK w w' → (Builtin.lenOf xv).run P w' = .ok m w' ∧ (Builtin.firstCells sz m xv).run P w' = .ok news w'
theorem Src.empty (xv : Value) (sz : Nat) (g : Nat → List PV) (hx : ∃ a c, xv = .slice a 0 c) : Src P μ h S w xv sz 0 g := by
 obtain ⟨a, c, rfl⟩ := hx
 refine ⟨fun i hi => absurd hi avh, #[], by simp, fun i j pv hi => absurd hi avh, fun u hu => by simp at hu, fun w' _ => ⟨rfl, ?_⟩⟩
 cases a with
 | none => rfl
 | some a => simp [Builtin.firstCells, loadCells, loadCellsFrom]
theorem uh (hc : Core μ h S w) (id g off len sz n : Nat) (e : TypeId) (f : Nat → List PV) (hh : h[id]? = some (ar.row g sz n e f)) (v : Value) (hv : aZ μ h S w (.own id g off len) v) (fQ : 0 < sz) : Src P μ h S w v sz len (fun i => f (off + i)) := by
 have hr := hv.oh
 unfold aW at hr
 rw [hh] at hr
 obtain ⟨_, _, hr⟩ := hr
 obtain ⟨hle, hr⟩ := hr rfl
 obtain ⟨hl, aJ⟩ := hc.heap id g sz n e f hh
 cases eg : μ id with
 | none =>
  rw [eg] at hr aJ
  have hn : n = 0 := aJ
  have h0 : len = 0 := by omega
  subst h0
  exact Src.empty v sz _ ⟨_, _, hr⟩
 | some p =>
  obtain ⟨b, base⟩ := p
  rw [eg] at hr aJ
  obtain ⟨ad, cap, hv, PR, sS, DU⟩ := hr
  obtain ⟨cur, jL, ny, jq⟩ := bA.cells DU aJ
  rcases atw len with h0 | h0
  ·subst h0
   exact Src.empty v sz _ ⟨_, _, hv⟩
  ·have sS := sS avh
   subst sS
   obtain ⟨news, q1, q2, q3, q4⟩ := CS (P := P) (μ := μ) (h := h) (S := S) (w := w) b (base + off * sz) len sz fQ (fun i => f (off + i)) (fun i hi => hl _ avh) (fun i j pv hi hj => by
    obtain ⟨u, r1, r2⟩ := jq (off + i) j pv avh hj
    refine ⟨u, ?_, r2⟩
    rw [cell_of_row w b _ cur e (0, 0) jL, ← r1]
    congr 1
    rw [asX]
    omega)
   exact ⟨fun i hi => hl _ avh, news, q1, q2, q3, fun w' ha => ⟨by rw [hv]; rfl, by rw [hv]; exact q4 w' ha⟩⟩
theorem ui (hc : Core μ h S w) (x : PV) (xv : Value) (hx : aZ μ h S w x xv) (sz : Nat) (fQ : 0 < sz) (K : Nat → (Nat → List PV) → Prop) (hp : CT x h sz K) : ∃ m g, K m g ∧ Src P μ h S w xv sz m g ∧ ∀ (i j : Nat) (pv : PV), i < m → (g i)[j]? = some pv → eL pv = false := by
 unfold CT at hp
 split at hp
 ·exact ⟨_, _, hp, Src.empty _ _ _ ⟨_, _, hx.nF⟩, fun i j pv hi => absurd hi (atq _)⟩
 ·rename_i bx m g
  replace hp := aU hp
  obtain ⟨wZ, hp⟩ := hp
  obtain rfl := Of wZ
  refine ⟨m, g, hp, ?_⟩
  rcases hx.qc with ⟨a, c, ex, rfl⟩ | ⟨b, off, c, vf, ex, hS, hl, Vw, aJ, kV⟩
  ·exact ⟨Src.empty _ _ _ ⟨_, _, ex⟩, fun i j pv hi => absurd hi (atq _)⟩
  ·obtain ⟨news, q1, q2, q3, q4⟩ := CS (P := P) (μ := μ) (h := h) (S := S) (w := w) b off m sz fQ g hl (fun i j pv hi hj => ⟨_, aJ i j pv hi hj, (bq.jy (kV i j pv hi hj)).k (aF.no (kV i j pv hi hj))⟩)
   exact ⟨⟨hl, news, q1, q2, q3, fun w' ha => ⟨by rw [ex]; rfl, by rw [ex]; exact q4 w' ha⟩⟩, fun i j pv hi hj => aF.no (kV i j pv hi hj)⟩
 ·rename_i id gen off m
  split at hp
  ·rename_i g bx n e f hg
   obtain ⟨rfl, yh, hp⟩ := hp
   replace hp := aU hp
   obtain ⟨wZ, hp⟩ := hp
   obtain rfl := Of wZ
   exact ⟨m, _, hp, uh hc id g off m sz n e f (dQ hg) xv hx fQ, fun i j pv hi hj => FY (yh i hi) hj⟩
  ·exact auJ
 ·rename_i s
  replace hp := aU hp
  obtain ⟨wZ, hp⟩ := hp
  obtain rfl := Of wZ
  refine ⟨_, _, hp, ⟨fun i hi => rfl, (s.map fun b => Value.int .u8 b.toNat).toArray, by simp, fun i j pv hi hj => ?_, fun u hu => ?_, fun w' _ => ⟨by rw [hx.kE]; rfl, ?_⟩⟩, fun i j pv hi hj => ?_⟩
  ·cases j with
   | zero =>
    simp at hj
    subst hj
    refine ⟨.int .u8 (s.getD i 0).toNat, ?_, aF.int _ _⟩
    rw [asM, amb hi]
    simp [hi]
   | succ j => simp at hj
  ·simp at hu
   obtain ⟨b, _, rfl⟩ := hu
   rfl
  ·rw [hx.kE]
   have e1 : (ByteArray.mk ⟨s⟩).extract 0 s.length = ByteArray.mk ⟨s⟩ := by rw [uO]; simp
   simp only [Builtin.firstCells, e1]
   simp
  ·cases j with
   | zero => simp at hj; subst hj; rfl
   | succ j => simp at hj
 ·exact auJ
end
section
variable {P : Program} {T : lO} {μ : Mu} {h : List ar} {S : Nat → Prop} {w : World}
theorem yw (hc : Core μ h S w) (id g g1 sz n : Nat) (e : TypeId) (f f1 : Nat → List PV) (hh : h[id]? = some (ar.row g sz n e f)) (eg : μ id = none) (hg : g < g1) :
  Fr μ h S w μ (h.set id (.row g1 sz 0 e f1)) S w ∧ Core μ (h.set id (.row g1 sz 0 e f1)) S w := by
 have hid : id < h.length := (At.1 hh).1
 have iy : (h.set id (ar.row g1 sz 0 e f1))[id]? = some (ar.row g1 sz 0 e f1) := by simp [hid]
 have bX : ∀ j, j ≠ id → (h.set id (ar.row g1 sz 0 e f1))[j]? = h[j]? := fun j hj => by rw [atn (atH hj)]
 have vu : ∀ b, yk μ (h.set id (ar.row g1 sz 0 e f1)) b → yk μ h b := fun b hb => by
  obtain ⟨j, gj, ma, nj, ej, fj, oK, hj, hm⟩ := hb
  by_cases hJ : j = id
  ·subst hJ; rw [eg] at hm; cases hm
  ·rw [bX j hJ] at hj; exact ⟨j, gj, ma, nj, ej, fj, oK, hj, hm⟩
 have mw : ∀ j x y b, cH (h.set id (ar.row g1 sz 0 e f1)) j x y b → cH h j x y b := fun j x y b ⟨gj, ma, nj, ej, fj, bx, n', e', f', F', q1, q2, q3, q4⟩ => by
  by_cases hJ : j = id
  ·subst hJ
   rw [iy] at q1
   injection q1 with q1
   injection q1 with e1 e2 e3 e4 e5
   omega
  ·rw [bX j hJ] at q1
   exact ave
 have kJ : ∀ b, bP μ (h.set id (ar.row g1 sz 0 e f1)) b → bP μ h b := fun b hb => by
  rcases hb with hb | ⟨x, y, z, hb⟩
  ·exact .inl (vu b hb)
  ·exact .inr ⟨x, y, z, mw _ _ _ _ hb⟩
 have jC : Fr μ h S w μ (h.set id (.row g1 sz 0 e f1)) S w := by
  refine ⟨by simp, fun _ _ _ => rfl, fun _ hb => hb, fun _ hb => .inl hb, fun b hb => .inl (kJ b hb), asA _, rfl, rfl, rfl, fun j gj ma nj ej fj hj => ?_, fun j hj => ?_, fun _ _ _ dZ => dZ, fun j gj ma nj ej fj b base hj hm lx => ⟨lx, .inr ⟨⟨_, _, _, _, _, (bX j (by rintro rfl; rw [eg] at hm; cases hm)).trans hj⟩, hm⟩⟩, fun _ _ _ _ _ lx => lx⟩
  ·by_cases hJ : j = id
   ·subst hJ
    rw [hh] at hj
    injection hj with hj
    injection hj with e1 e2 e3 e4 e5
    subst e1 e2 e3 e4 e5
    rw [iy]
    exact ⟨by omega, fun he => absurd he avh⟩
   ·rw [bX j hJ, hj]
    exact avb
  ·have hJ : j ≠ id := by rintro rfl; rw [hh] at hj; cases hj
   rw [bX j hJ]; exact hj
 refine ⟨jC, ⟨fun j gj ma nj ej fj hj => ?_, ⟨fun b hb => hc.ok.apart b (kJ b hb), fun b hb => hc.ok.lt b (kJ b hb), hc.ok.slt, ?_, hc.ok.known, fun b hb x y z hx => hc.ok.hv b (vu b hb) x y z (mw _ _ _ _ hx), fun b _ _ _ _ _ _ hx hy => hc.ok.hh b _ _ _ _ _ _ (mw _ _ _ _ hx) (mw _ _ _ _ hy)⟩⟩⟩
 ·by_cases hJ : j = id
  ·subst hJ
   rw [iy] at hj
   injection hj with hj
   injection hj with e1 e2 e3 e4 e5
   subst e1 e2 e3 e4 e5
   refine ⟨fun i hi => absurd hi avh, ?_⟩
   rw [eg]
  ·rw [bX j hJ] at hj
   obtain ⟨h1, h2⟩ := hc.heap j gj ma nj ej fj hj
   refine ⟨h1, ?_⟩
   cases hm : μ j with
   | none => rw [hm] at h2; exact h2
   | some p =>
    obtain ⟨b, base⟩ := p
    rw [hm] at h2
    obtain ⟨o, q1, q2⟩ := h2
    exact ⟨o, q1, q2.mono (fun _ _ _ _ _ _ hr => hr.fr jC hc.ok (fun _ _ _ _ _ _ _ _ => rfl))⟩
 ·intro i j gi O8 ni ei fi gj ma nj ej fj b o o' hi hj mv lL
  have Iu : i ≠ id := by rintro rfl; rw [eg] at mv; cases mv
  have hJ : j ≠ id := by rintro rfl; rw [eg] at lL; cases lL
  rw [bX i Iu] at hi
  rw [bX j hJ] at hj
  exact hc.ok.inj i j _ _ _ _ _ _ _ _ _ _ _ _ _ hi hj mv lL
variable {a : Act} {env : Env} {K : PV → List ar → Prop} {dst : Option Tmp} {ty : TypeId} {pos : String} {after : Array Edge} {guard : Option (Nat × Bool)}
theorem pU (z : Array Value) (n : Nat) : (Builtin.zeroCells z n).size = n * z.size := by simp [Builtin.zeroCells]
theorem lr {s x : Operand} {t tx : TypeId} {sv xv v' : Value} {w' : World} (hs : a.eval s = sv) (hx : a.eval x = xv) (hr : (Builtin.append_ #[t, tx] ty #[sv, xv]).run P w = .ok v' w') :
  (execOp a.eval ⟨dst, .call ⟨.builtin .append, #[s, x], #[t, tx]⟩, ty, pos, after, guard⟩).run P w = .ok (.value v') w' := by
 simp only [execOp, resolve, invoke, builtin, Sem.run_bind, Sem.run_pure, Result.andThen_ok, aud, adr, asB, hs, hx, hr]
theorem Ev {sz l m : Nat} {f q : Nat → List PV} {vt news rest : Array Value} (ho : vt.size = l * sz) (hn : news.size = m * sz)
  (h1 : ∀ (i j : Nat) (pv : PV), i < l → (f i)[j]? = some pv → ∃ u, vt[i * sz + j]? = some u ∧ lz μ h S w pv u)
  (h2 : ∀ (i j : Nat) (pv : PV), i < m → (q i)[j]? = some pv → ∃ u, news[i * sz + j]? = some u ∧ lz μ h S w pv u)
  (hl1 : ∀ i, i < l → (f i).length = sz) (mD : ∀ i, i < m → (q i).length = sz) :
  ∀ (i j : Nat) (pv : PV), i < l + m → (bif Nat.blt i l then f i else q (i - l))[j]? = some pv → ∃ u, (vt ++ news ++ rest)[i * sz + j]? = some u ∧ lz μ h S w pv u := by
 intro i j pv hi hj
 by_cases qd : i < l
 ·have hb : Nat.blt i l = true := by simpa using qd
  rw [hb] at hj
  simp only [cond_true] at hj
  obtain ⟨u, q1, q2⟩ := h1 i j pv qd hj
  have cM : i * sz + j < vt.size := (asC.1 q1).1
  exact ⟨u, by rw [atp avm, atp cM]; exact q1, q2⟩
 ·have hb : Nat.blt i l = false := by
   cases hh : Nat.blt i l with
   | true => exact (qd (by simpa using hh)).elim
   | false => rfl
  rw [hb] at hj
  simp only [cond_false] at hj
  obtain ⟨u, q1, q2⟩ := h2 (i - l) j pv avh hj
  have cM : (i - l) * sz + j < news.size := (asC.1 q1).1
  have hmul : i * sz = l * sz + (i - l) * sz := by rw [← asX]; congr 1; omega
  refine ⟨u, ?_, q2⟩
  rw [atp avm, Array.getElem?_append_right avh, ← q1]
  congr 1
  omega
theorem N4 {sz l m : Nat} {f q : Nat → List PV} (hl1 : ∀ i, i < l → (f i).length = sz) (mD : ∀ i, i < m → (q i).length = sz) : ∀ i, i < l + m → (bif Nat.blt i l then f i else q (i - l)).length = sz := by
 intro i hi
 by_cases qd : i < l
 ·have hb : Nat.blt i l = true := by simpa using qd
  rw [hb]; exact hl1 i qd
 ·have hb : Nat.blt i l = false := by
   cases hh : Nat.blt i l with
   | true => exact (qd (by simpa using hh)).elim
   | false => rfl
  rw [hb]; exact mD _ avh
theorem uj (w : World) (o : Obj) : bK w (w.drew.alloc o) := (bK.drew w).trans (j9 w.drew o)
theorem CU (hT : cn P T) (hc : Core μ h S w) (t tx e sz bytes : Nat) (zero : List PV) (d : TypeDesc) (eZ : T.get t = .slice e sz bytes zero) (rq : P.underlying tx = some d) (hd : (∃ e', d = .slice e') ∨ d = .string)
  (s x : Operand) (hs : a.eval s = .slice none 0 0) (m : Nat) (g : Nat → List PV) (xl : Src P μ h S w (a.eval x) sz m g) (hgo : ∀ (i j : Nat) (pv : PV), i < m → (g i)[j]? = some pv → eL pv = false) (hb : m * bytes ≤ 140737488355328) (hK : K (.own h.length 0 0 m) (h ++ [.row 0 sz m e g])) :
  eU P ⟨dst, .call ⟨.builtin .append, #[s, x], #[t, tx]⟩, ty, pos, after, guard⟩ a μ h S w K := by
 obtain ⟨hu, fQ, inf, zv, kh, mu, VF, hz, O5, O6, Mb⟩ := hT.slice _ _ _ _ _ eZ
 have hbp := hT.bytes _ _ _ _ _ eZ
 subst mu VF
 obtain ⟨hl, news, q1, q2, q3, q4⟩ := xl
 rcases atw m with h0 | h0
 ·subst h0
  have hn : news = #[] := atE (by simpa using q1)
  subst hn
  obtain ⟨r1, r2⟩ := q4 w (bK.refl w)
  have hr := mj (P := P) (w := w) t tx ty e inf d hu rq hd kh none 0 0 (a.eval x) 0 #[] w r1 r2 (asA _) rfl
  obtain ⟨jC, nz⟩ := lW (w1 := w) hc inf.size 0 e g none rfl (bK.refl w) hl hgo
  refine eU.gW (lr hs rfl hr) hK ?_ nz jC
  show aW _ _ _ _ _ _ _ _
  unfold aW
  rw [asU (asA _), atz]
  refine ⟨⟨_, _, _, rfl⟩, asA _, fun _ => ⟨by omega, ?_⟩⟩
  rw [bn]
 ·obtain ⟨r1, _⟩ := q4 w (bK.refl w)
  obtain ⟨_, r2⟩ := q4 w.drew (bK.drew w)
  have hr := oL (P := P) (w := w) t tx ty e inf zv d hu rq hd kh hz none 0 0 (a.eval x) m #[] news r1 rfl r2 avh hbp (by rw [asN]; exact hb)
  rw [asN] at hr
  obtain ⟨jC, nz⟩ := lW (w1 := w.drew.alloc (.cells (#[] ++ news ++ Builtin.zeroCells zv.cells (grownCap w m 0 e - m)) e)) hc inf.size m e g (some (w.heap.size, 0))
   ⟨asA _, _, heap_alloc_new w.drew _, by simp [q1], fun i j pv hi hj => by
    obtain ⟨u, p1, p2⟩ := q2 i j pv hi hj
    have cM := (asC.1 p1).1
    exact ⟨u, by rw [atY, asN, atp cM]; exact p1, p2.c⟩⟩ (uj w _) hl hgo
  refine eU.gW (lr hs rfl hr) hK ?_ nz jC
  show aW _ _ _ _ _ _ _ _
  unfold aW
  rw [asU (asA _), atz]
  refine ⟨⟨_, _, _, rfl⟩, asA _, fun _ => ⟨by omega, ?_⟩⟩
  rw [bn]
  have O7 := grownCap_ge w m 0 e
  refine ⟨_, grownCap w m 0 e, rfl, O7, fun _ => by simp, _, e, _, heap_alloc_new w.drew _, ?_⟩
  simp only [auj, pU, O5, q1]
  simp only [asN]
  have : grownCap w m 0 e * inf.size = m * inf.size + (grownCap w m 0 e - m) * inf.size := by rw [← asX]; congr 1; omega
  simp
  omega
theorem Ew (hT : cn P T) (hc : Core μ h S w) (t tx e sz bytes : Nat) (zero : List PV) (d : TypeDesc) (eZ : T.get t = .slice e sz bytes zero) (rq : P.underlying tx = some d) (hd : (∃ e', d = .slice e') ∨ d = .string)
  (s x : Operand) (id g off len n : Nat) (f : Nat → List PV) (hh : h[id]? = some (ar.row g sz n e f)) (hs : aZ μ h S w (.own id g off len) (a.eval s)) (m : Nat) (q : Nat → List PV) (xl : Src P μ h S w (a.eval x) sz m q) (hqo : ∀ (i j : Nat) (pv : PV), i < m → (q i)[j]? = some pv → eL pv = false)
  (hb : (len + m) * bytes ≤ 140737488355328)
  (hK : K (.own id (g + 1) 0 (len + m)) (h.set id (.row (g + 1) sz (len + m) e (fun i => bif Nat.blt i len then f (off + i) else q (i - len))))) :
  eU P ⟨dst, .call ⟨.builtin .append, #[s, x], #[t, tx]⟩, ty, pos, after, guard⟩ a μ h S w K := by
 obtain ⟨hu, fQ, inf, zv, kh, mu, VF, hz, O5, O6, Mb⟩ := hT.slice _ _ _ _ _ eZ
 have hbp := hT.bytes _ _ _ _ _ eZ
 subst mu VF
 have hid : id < h.length := (At.1 hh).1
 obtain ⟨hl1, vt, o1, o2, o3, o4⟩ := uh (P := P) hc id g off len inf.size n e f hh _ hs fQ
 obtain ⟨mD, news, q1, q2, q3, q4⟩ := xl
 have WC := N4 hl1 mD
 have hjo : ∀ {sl : Nat}, off + sl ≤ n → ∀ (i j bx n' : Nat) (e' : TypeId) (f' : Nat → List PV) (F' : Nat → Prop), i < sl + m → (bif Nat.blt i sl then f (off + i) else q (i - sl))[j]? = some (.fJ bx n' e' f' F') → off + i < n ∧ (f (off + i))[j]? = some (.fJ bx n' e' f' F') := fun {sl} hsn i j bx n' e' f' F' hi hj => by
  by_cases qd : i < sl
  ·have hb : Nat.blt i sl = true := by simpa using qd
   rw [hb] at hj
   exact ⟨by omega, hj⟩
  ·have hb : Nat.blt i sl = false := by
    cases hh : Nat.blt i sl with
    | true => exact (qd (by simpa using hh)).elim
    | false => rfl
   rw [hb] at hj
   have := hqo (i - sl) j _ avh hj
   cases this
 have tN := hs.oh
 unfold aW at tN
 rw [hh] at tN
 obtain ⟨⟨sa, sl, oU, Ic⟩, _, tN⟩ := tN
 obtain ⟨hle, tN⟩ := tN rfl
 have Ma : sl = len := by
  obtain ⟨e1, _⟩ := o4 w (bK.refl w)
  rw [Ic] at e1
  simp [Builtin.lenOf] at e1
  exact e1
 subst Ma
 obtain ⟨hl, aJ⟩ := hc.heap id g _ n e f hh
 have OT : ∀ b base, μ id = some (b, base) → ¬ mS w b := fun b base eg => by
  rw [eg] at tN
  obtain ⟨_, _, _, _, _, dZ⟩ := tN
  exact dZ.rk
 by_cases sX : sl + m ≤ oU
 ·-- in place
  obtain ⟨r1, r2⟩ := q4 w (bK.refl w)
  cases eg : μ id with
  | none =>
   rw [eg] at tN aJ
   rw [Ic] at tN
   injection tN with e1 e2 e3
   subst e1 e2 e3
   have hm : m = 0 := by omega
   subst hm
   have hn : news = #[] := atE (by simpa using q1)
   subst hn
   have hr := mj (P := P) (w := w) t tx ty e inf d hu rq hd kh none 0 0 (a.eval x) 0 #[] w r1 r2 (asA _) rfl
   obtain ⟨jC, nz⟩ := yw hc id g (g + 1) inf.size n e f (fun i => bif Nat.blt i 0 then f (off + i) else q (i - 0)) hh eg (ate g)
   refine eU.gW (lr Ic rfl hr) hK ?_ nz jC
   show aW _ _ _ _ _ _ _ _
   unfold aW
   rw [atJ hid]
   refine ⟨⟨_, _, _, rfl⟩, asA _, fun _ => ⟨by omega, ?_⟩⟩
   rw [eg]
  | some p =>
   obtain ⟨b, base⟩ := p
   rw [eg] at tN aJ
   obtain ⟨ad, cap, hv, PR, sS, dZ⟩ := tN
   rw [Ic] at hv
   injection hv with e1 e2 e3
   subst e1 e3
   obtain ⟨cur, jL, ny, jq⟩ := bA.cells dZ aJ
   have N5 : base + (off + oU) * inf.size ≤ cur.size := by
    obtain ⟨DZ, e', z', p1, p2⟩ := dZ
    rw [jL] at p1
    injection p1 with p1
    injection p1 with p1 _ _
    subst p1
    exact p2
   rw [asX] at N5
   have key : ∃ kr : Array Value, kr.size = cur.size ∧ (match (some ad : Option Addr) with | some a => (storeCells (a.add (sl * inf.size)) news.toList).run P w = .ok () (w.setRow b kr) | none => w.setRow b kr = w) ∧
     ∀ k, kr[k]? = if base + off * inf.size + sl * inf.size ≤ k ∧ k < base + off * inf.size + sl * inf.size + m * inf.size then news[k - (base + off * inf.size + sl * inf.size)]? else cur[k]? := by
    rcases atw m with h0 | h0
    ·subst h0
     have hn : news = #[] := atE (by simpa using q1)
     subst hn
     refine ⟨cur, rfl, ?_, fun k => by rw [if_neg avh]⟩
     show (storeCells (ad.add (sl * inf.size)) []).run P w = .ok () (w.setRow b cur)
     rw [setRow_self w b cur e (0, 0) jL]
     rfl
    ·have sS := sS avh
     subst sS
     have hmul : (sl + m) * inf.size ≤ oU * inf.size := asQ _ sX
     rw [asX] at hmul
     have rP := run_storeCells_at P b (base + off * inf.size + sl * inf.size) e news.toList 0 cur w jL avm q3
     rw [aty] at rP
     refine ⟨(cur.toList.take (base + off * inf.size + sl * inf.size) ++ news.toList ++ cur.toList.drop (base + off * inf.size + sl * inf.size + news.toList.length)).toArray, ?_, ?_, fun k => ?_⟩
     ·simp; omega
     ·show (storeCells ((⟨b, base + off * inf.size, none⟩ : Addr).add (sl * inf.size)) news.toList).run P w = .ok () _
      rw [Addr.add_lit]
      exact rP
     ·have hsp := ru cur.toList news.toList (base + off * inf.size + sl * inf.size) k avm
      rw [aue, hsp]
      simp only [asV, ats, q1]
   obtain ⟨kr, c1, c2, c3⟩ := key
   have hr := mj (P := P) (w := w) t tx ty e inf d hu rq hd kh (some ad) sl oU (a.eval x) m news (w.setRow b kr) r1 r2 sX c2
   have hmul : (sl + m) * inf.size ≤ oU * inf.size := asQ _ sX
   rw [asX] at hmul
   have me := nx (w1 := w.setRow b kr) hc id g (g + 1) inf.size n (sl + m) e f (fun i => bif Nat.blt i sl then f (off + i) else q (i - sl)) hh b (base + off * inf.size) kr avh (fun he => absurd he avh)
    (.inr ⟨base, cur, eg, jL, c1.symm⟩) (setRow_heap w b cur _ e _ jL) (by rw [c1, asX]; omega) (fun b' _ nS => setRow_other w b b' _ nS) avj rfl rfl rfl WC OT
    (fun i j pv hi hj => by
     have B3 : j < inf.size := by rw [← WC i hi]; exact (At.1 hj).1
     rw [c3]
     by_cases qd : i < sl
     ·have hbl : Nat.blt i sl = true := by simpa using qd
      rw [hbl] at hj
      simp only [cond_true] at hj
      have mv : (i + 1) * inf.size ≤ sl * inf.size := asQ _ qd
      rw [asX] at mv
      rw [if_neg avh]
      obtain ⟨u, p1, p2⟩ := jq (off + i) j pv avh hj
      refine ⟨u, ?_, p2⟩
      rw [← p1]
      congr 1
      rw [asX]
      omega
     ·have hbl : Nat.blt i sl = false := by
       cases hh' : Nat.blt i sl with
       | true => exact (qd (by simpa using hh')).elim
       | false => rfl
      rw [hbl] at hj
      simp only [cond_false] at hj
      have e1 : i * inf.size = sl * inf.size + (i - sl) * inf.size := by rw [← asX]; congr 1; omega
      have e2 : (i - sl + 1) * inf.size ≤ m * inf.size := asQ _ avh
      rw [asX] at e2
      rw [if_pos avh]
      obtain ⟨u, p1, p2⟩ := q2 (i - sl) j pv avh hj
      exact ⟨u, by rw [← p1]; congr 1; omega, p2⟩) off (hjo avh)
   obtain ⟨jC, nz⟩ := me
   refine eU.gW (lr Ic rfl hr) hK ?_ nz jC
   show aW _ _ _ _ _ _ _ _
   unfold aW
   rw [atJ hid]
   refine ⟨⟨_, _, _, rfl⟩, asA _, fun _ => ⟨by omega, ?_⟩⟩
   rw [bn]
   refine ⟨ad, oU, rfl, sX, fun hc0 => ?_, kr, e, _, setRow_heap w b cur _ e _ jL, ?_⟩
   ·rw [sS hc0, Nat.zero_mul, aty]
   ·rw [c1, asN]; omega
 ·-- it grows
  obtain ⟨r1, _⟩ := q4 w (bK.refl w)
  obtain ⟨_, r2⟩ := q4 w.drew (bK.drew w)
  obtain ⟨_, s2⟩ := o4 w.drew (bK.drew w)
  rw [Ic] at s2
  have hr := oL (P := P) (w := w) t tx ty e inf zv d hu rq hd kh hz sa sl oU (a.eval x) m vt news r1 s2 r2 avh hbp hb
  have O7 := grownCap_ge w (sl + m) oU e
  have me := nx (w1 := w.drew.alloc (.cells (vt ++ news ++ Builtin.zeroCells zv.cells (grownCap w (sl + m) oU e - (sl + m))) e)) hc id g (g + 1) inf.size n (sl + m) e f (fun i => bif Nat.blt i sl then f (off + i) else q (i - sl)) hh
   w.heap.size 0 (vt ++ news ++ Builtin.zeroCells zv.cells (grownCap w (sl + m) oU e - (sl + m))) avh (fun he => absurd he avh) (.inl (asA _)) (heap_alloc_new w.drew _)
   (by simp only [auj, o1, q1, asX]; omega) (fun b cM _ => heap_alloc_old w.drew _ cM) avj rfl rfl rfl WC OT
   (fun i j pv hi hj => by
    rw [asN]
    exact Ev o1 q1 o2 q2 hl1 mD i j pv hi hj) off (hjo avh)
  obtain ⟨jC, nz⟩ := me
  refine eU.gW (lr Ic rfl hr) hK ?_ nz jC
  show aW _ _ _ _ _ _ _ _
  unfold aW
  rw [atJ hid]
  refine ⟨⟨_, _, _, rfl⟩, asA _, fun _ => ⟨by omega, ?_⟩⟩
  rw [bn]
  refine ⟨_, grownCap w (sl + m) oU e, rfl, O7, fun _ => by simp, _, e, _, heap_alloc_new w.drew _, ?_⟩
  simp only [auj, pU, O5, o1, q1, asN]
  have : grownCap w (sl + m) oU e * inf.size = (sl + m) * inf.size + (grownCap w (sl + m) oU e - (sl + m)) * inf.size := by rw [← asX]; congr 1; omega
  rw [asX] at this
  omega
theorem AW (hT : cn P T) (hc : Core μ h S w) (ht : ∀ t, aZ μ h S w (env t) (a.tmps.getD t undef)) (args : Array Operand) (ts : Array TypeId) (hp : pop P T (.call ⟨.builtin .append, args, ts⟩) env h K) :
  eU P ⟨dst, .call ⟨.builtin .append, args, ts⟩, ty, pos, after, guard⟩ a μ h S w K := by
 obtain ⟨args⟩ := args
 obtain ⟨ts⟩ := ts
 simp only [pop] at hp
 split at hp
 ·rename_i s x t tx
  have hs := bp ht s
  have hx := bp ht x
  have main : ∀ (e sz bytes : Nat) (zero : List PV) (d : TypeDesc), T.get t = .slice e sz bytes zero → P.underlying tx = some d → ((∃ e', d = .slice e') ∨ d = .string) → mM e sz bytes (ev env s) (ev env x) h K →
    eU P ⟨dst, .call ⟨.builtin .append, #[s, x], #[t, tx]⟩, ty, pos, after, guard⟩ a μ h S w K := by
   intro e sz bytes zero d eZ hxu hd hp
   have fQ := (hT.slice _ _ _ _ _ eZ).2.1
   unfold mM at hp
   split at hp
   ·rename_i hes
    rw [hes] at hs
    obtain ⟨_, g, ⟨hb, m, f', rfl, oY, hK⟩, xl, hgo⟩ := ui (P := P) hc _ _ hx sz fQ _ hp
    exact eU.rows (CU hT hc t tx e sz bytes zero d eZ hxu hd s x hs.nF m g xl hgo hb ⟨_, cW.snoc _ _ _ _ _ _ _ oY, hK⟩)
   ·rename_i id gen off len hes
    rw [hes] at hs
    split at hp
    ·rename_i g bx n e' f hg
     obtain ⟨rfl, hp⟩ := hp
     replace hp := aU hp
     obtain ⟨wZ, hp⟩ := hp
     simp only [As] at wZ
     obtain rfl := Of wZ.1
     obtain rfl := Of wZ.2
     obtain ⟨m, q, ⟨hb, n', f', rfl, oY, hK⟩, xl, hqo⟩ := ui (P := P) hc _ _ hx sz fQ _ hp
     exact eU.rows (Ew hT hc t tx e sz bytes zero d eZ hxu hd s x id g off len n f (dQ hg) hs m q xl hqo hb ⟨_, cW.set _ _ _ _ _ _ _ _ oY, hK⟩)
    ·exact auJ
   ·exact auJ
  split at hp
  ·rename_i e sz bytes zero e' bx acB aoL eZ htx
   exact main e sz bytes zero _ eZ (hT.slice _ _ _ _ _ htx).1 (.inl ⟨_, rfl⟩) hp
  ·rename_i e sz bytes zero eZ htx
   exact main e sz bytes zero _ eZ (hT.str _ htx) (.inr rfl) hp
  ·exact auJ
 ·exact auJ
theorem aZ.RF {pv : PV} {v : Value} (hr : gJ μ h S w pv v) : aZ μ h S w pv v := by
 cases pv with
 | aV ps => exact (show False from hr).elim
 | _ => exact hr
theorem Ex (hc : Core μ h S w) (ht : ∀ t, aZ μ h S w (env t) (a.tmps.getD t undef)) (fo : Operand) (args : Array Operand) (ts : Array TypeId) (hp : pop P T (.call ⟨.value fo, args, ts⟩) env h K) :
  eU P ⟨dst, .call ⟨.value fo, args, ts⟩, ty, pos, after, guard⟩ a μ h S w K := by
 have DS := bp ht fo
 simp only [pop] at hp
 split at hp
 ·rename_i f hef
  rw [hef] at DS
  replace hp := aU hp
  obtain ⟨WD, R, ⟨⟨fn, c, PO, CV, tb⟩, hA⟩, hK⟩ := hp
  simp only [asH] at WD
  have CW := hA w (args.map a.eval) μ S hc.heap hc.ok avj (fun j pv hj => by
   rw [asS] at hj
   cases hx : args.toList[j]? with
   | none => rw [hx] at hj; cases hj
   | some x =>
    rw [hx] at hj
    injection hj with hj
    subst hj
    refine ⟨a.eval x, by rw [atX]; simp only [asV] at hx; rw [hx]; rfl, ?_⟩
    have hv := bp ht x
    have nS := WD x (asP hx)
    cases he : ev env x with
    | aV ps => rw [he] at nS; cases nS
    | _ => rw [he] at hv; exact hv)
  intro next Q hn
  have jN : (execOp a.eval ⟨dst, .call ⟨.value fo, args, ts⟩, ty, pos, after, guard⟩).run P w = .ok (.enter f (args.map a.eval)) w := by
   simp only [execOp, resolve, DS.L7, Deferred.ofValue, invoke, callFunc, Sem.run_bind, Sem.run_pure, Result.andThen_ok, Array.append_empty, atY]
   have xm : ¬ fn.name = "runtime.NumGoroutine" := by simpa using tb
   simp [program, Sem.run, Result.andThen, PO, xm, CV]
  unfold Oper.wp
  rw [jN]
  show Calls P f (args.map a.eval) w _
  refine CW.mono fun e w' ⟨v, res, h', μ', S', he, hR, hv, hH, hM, hF⟩ => ?_
  subst he
  exact hn res v h' μ' S' w' (hK res h' hR) hv ⟨hH, hM⟩ hF
 ·rename_i f bs hef
  rw [hef] at DS
  replace hp := aU hp
  obtain ⟨WD, R, ⟨⟨fn, c, PO, CV, tb⟩, hA⟩, hK⟩ := hp
  simp only [asH] at WD
  obtain ⟨vs, hvf, hvl, hvc⟩ := (show lC μ h w f bs (a.eval fo) from DS)
  have CW := hA w (args.map a.eval ++ vs) μ S hc.heap hc.ok (by simp [hvl]) (fun j pv hj => by
   by_cases cM : j < args.size
   ·rw [ata (by simpa using cM), asS] at hj
    cases hx : args.toList[j]? with
    | none => rw [hx] at hj; cases hj
    | some x =>
     rw [hx] at hj
     injection hj with hj
     subst hj
     refine ⟨a.eval x, by rw [atp (by simpa using cM), atX]; simp only [asV] at hx; rw [hx]; rfl, ?_⟩
     have hv := bp ht x
     have nS := WD x (asP hx)
     cases he : ev env x with
     | aV ps => rw [he] at nS; cases nS
     | _ => rw [he] at hv; exact hv
   ·rw [asU (by simpa using Nat.le_of_not_lt cM), asS] at hj
    simp only [atT, ats] at hj
    cases hx : bs[j - args.size]? with
    | none => rw [hx] at hj; cases hj
    | some p =>
     rw [hx] at hj
     injection hj with hj
     subst hj
     obtain ⟨u, q1, q2⟩ := hvc _ p hx
     exact ⟨u, by rw [Array.getElem?_append_right (by simpa using Nat.le_of_not_lt cM)]; simpa using q1, q2⟩)
  intro next Q hn
  have jN : (execOp a.eval ⟨dst, .call ⟨.value fo, args, ts⟩, ty, pos, after, guard⟩).run P w = .ok (.enter f (args.map a.eval ++ vs)) w := by
   simp only [execOp, resolve, hvf, Deferred.ofValue, invoke, callFunc, Sem.run_bind, Sem.run_pure, Result.andThen_ok, atY]
   have xm : ¬ fn.name = "runtime.NumGoroutine" := by simpa using tb
   simp [program, Sem.run, Result.andThen, PO, xm, CV]
  unfold Oper.wp
  rw [jN]
  show Calls P f (args.map a.eval ++ vs) w _
  refine CW.mono fun e w' ⟨v, res, h', μ', S', he, hR, hv, hH, hM, hF⟩ => ?_
  subst he
  exact hn res v h' μ' S' w' (hK res h' hR) hv ⟨hH, hM⟩ hF
 ·exact auJ
theorem tj : ∀ (z xs ys : List PV) (b : Bool), yW z xs ys = some b → b = true → ∀ (j : Nat) (p q : PV), xs[j]? = some p → ys[j]? = some q → p = q ∧ ((∃ k n, p = .int k n) ∨ (∃ b, p = .bool b) ∨ ∃ s, p = .str s)
 | z, xs, ys, b, hk, hb, j, p, q, hp, hq => by
  subst hb
  unfold yW at hk
  split at hk
  ·simp at hp
  ·obtain ⟨hg, c, hc, e⟩ := bG hk
   simp only [As] at hg
   obtain rfl := dy hg.1
   obtain rfl := dy hg.2
   have e := e.symm
   simp only [As, beq_iff_eq] at e
   obtain ⟨rfl, rfl⟩ := e
   cases j with
   | zero => simp at hp hq; subst hp; subst hq; exact ⟨rfl, .inl ⟨_, _, rfl⟩⟩
   | succ j => exact tj _ _ _ _ hc rfl j p q (by simpa using hp) (by simpa using hq)
  ·obtain ⟨hg, c, hc, e⟩ := bG hk
   have e := e.symm
   simp only [As, beq_iff_eq] at e
   obtain ⟨rfl, rfl⟩ := e
   cases j with
   | zero => simp at hp hq; subst hp; subst hq; exact ⟨rfl, .inr (.inl ⟨_, rfl⟩)⟩
   | succ j => exact tj _ _ _ _ hc rfl j p q (by simpa using hp) (by simpa using hq)
  ·obtain ⟨hg, c, hc, e⟩ := bG hk
   have e := e.symm
   simp only [As, beq_iff_eq] at e
   obtain ⟨rfl, rfl⟩ := e
   cases j with
   | zero => simp at hp hq; subst hp; subst hq; exact ⟨rfl, .inr (.inr ⟨_, rfl⟩)⟩
   | succ j => exact tj _ _ _ _ hc rfl j p q (by simpa using hp) (by simpa using hq)
  ·cases hk
theorem tl : ∀ (z xs ys : List PV) (b : Bool), yW z xs ys = some b → ys.length = xs.length
 | z, xs, ys, b, hk => by
  unfold yW at hk
  split at hk
  ·rfl
  ·obtain ⟨_, c, hc, _⟩ := bG hk
   simp [tl _ _ _ c hc]
  ·obtain ⟨_, c, hc, _⟩ := bG hk
   simp [tl _ _ _ c hc]
  ·obtain ⟨_, c, hc, _⟩ := bG hk
   simp [tl _ _ _ c hc]
  ·cases hk
theorem Ey (s : List UInt8) : ((ByteArray.mk ⟨s⟩) == (ByteArray.mk ⟨s⟩)) = true := by
 show ((Array.mk s) == (Array.mk s)) = true
 simp
theorem uk (n : Nat) {p : PV} {u v : Value} (hp : (∃ k n, p = .int k n) ∨ (∃ b, p = .bool b) ∨ ∃ s, p = .str s) (hu : oI p u) (hv : bq μ h S w p v) : Instr.sameBits n u v = true := by
 rcases hp with ⟨k, m, rfl⟩ | ⟨b, rfl⟩ | ⟨s, rfl⟩
 ·have hu : u = _ := hu
  have hv : aF S w (.int k m) v := hv
  cases hv; subst hu
  cases n <;> simp [Instr.sameBits]
 ·have hu : u = _ := hu
  have hv : aF S w (.bool b) v := hv
  cases hv; subst hu
  cases n <;> simp [Instr.sameBits]
 ·have hu : u = _ := hu
  have hv : aF S w (.str s) v := hv
  cases hv; subst hu
  cases n <;> simp [Instr.sameBits, Ey]
theorem N6 {ti : TI} {kv kp : PV} {key ek : Value} (OU : aZ μ h S w kv key) (hs : mY kp ek) (hq : kN ti kv kp = some true) : Instr.sameBits 10000 ek key = true := by
 unfold kN at hq
 split at hq
 ·obtain ⟨hg, c, hc, e⟩ := bG hq
  simp only [As] at hg
  obtain rfl := dy hg.1
  obtain rfl := dy hg.2
  have e := e.symm
  simp only [As, beq_iff_eq] at e
  obtain ⟨rfl, _⟩ := e
  exact uk (μ := μ) (h := h) (S := S) (w := w) 10000 (.inl ⟨_, _, rfl⟩) hs OU
 ·have hq := ato hq
  rw [beq_iff_eq] at hq
  subst hq
  exact uk (μ := μ) (h := h) (S := S) (w := w) 10000 (.inr (.inr ⟨_, rfl⟩)) hs OU
 ·split at hq
  ·rename_i z xs ys _ _
   obtain ⟨O2, rfl, x1, x2⟩ := (show gJ μ h S w (.agg xs) key from OU)
   obtain ⟨vys, rfl, y1, y2⟩ := (show ∃ vs : Array Value, ek = .agg vs ∧ vs.size = ys.length ∧ ∀ (j : Nat) (pv : PV), ys[j]? = some pv → ∃ u : Value, vs[j]? = some u ∧ oI pv u from hs)
   have hl := tl _ _ _ _ hq
   rw [show 10000 = 9999 + 1 from rfl, Instr.sameBits]
   rw [As]
   refine ⟨by rw [beq_iff_eq, x1, y1, hl], asH.2 (fun p hp => ?_)⟩
   obtain ⟨j, hj, rfl⟩ := atD.1 hp
   have FA := hj
   rw [List.length_zip, ats, ats] at FA
   have hjx : j < xs.length := by omega
   have hjy : j < ys.length := by omega
   obtain ⟨e1, e2⟩ := tj _ _ _ _ hq rfl j _ _ (amb hjx) (amb hjy)
   obtain ⟨u, hu, tS⟩ := y2 j _ (amb hjy)
   obtain ⟨v, hv, mq⟩ := x2 j _ (amb hjx)
   rw [← e1] at tS
   have := uk 9999 e2 tS mq
   rw [List.getElem_zip]
   simp only [Array.getElem_toList]
   have h1 : vys[j]'avh = u := by rw [asT avh] at hu; exact ato hu
   have h2 : O2[j]'avh = v := by rw [asT avh] at hv; exact ato hv
   rw [h1, h2]
   exact this
  ·cases hq
 ·cases hq
theorem N7 {w1 : World} (hc : Core μ h S w) (id g sz n n1 : Nat) (e : TypeId) (f f1 : Nat → List PV) (hh : h[id]? = some (ar.row g sz n e f)) (b base : Nat) (es : Array MapEntry) (c : Nat) (eg : μ id = some (b, base))
  (hb : w.heap[b]? = some (.map es c)) (N8 : Array MapEntry) (c1 : Nat) (hw : w1.heap[b]? = some (.map N8 c1)) (iN : ∀ b', b' ≠ b → w1.heap[b']? = w.heap[b']?) (xa : w1.heap.size = w.heap.size) (hos : w1.os = w.os)
  (Md : w1.tape = w.tape) (Me : w1.output = w.output) (hl : ∀ i, i < n1 → (f1 i).length = sz)
  (hr : N8.size = n1 ∧ ∀ i, i < n1 → ∃ (kp vp : PV) (en : MapEntry), f1 i = [kp, vp] ∧ iM kp = true ∧ iM vp = true ∧ N8[i]? = some en ∧ mY kp en.key ∧ mY vp en.val) :
  Fr μ h S w μ (h.set id (.row (g + 1) sz n1 e f1)) S w1 ∧ Core μ (h.set id (.row (g + 1) sz n1 e f1)) S w1 := by
 have hid : id < h.length := (At.1 hh).1
 have iy : (h.set id (ar.row (g + 1) sz n1 e f1))[id]? = some (ar.row (g + 1) sz n1 e f1) := by simp [hid]
 have bX : ∀ j, j ≠ id → (h.set id (ar.row (g + 1) sz n1 e f1))[j]? = h[j]? := fun j hj => by rw [atn (atH hj)]
 have hvb : yk μ h b := ⟨id, g, sz, n, e, f, base, hh, eg⟩
 have xc : bP μ h b := .inl hvb
 have vu : ∀ b', yk μ (h.set id (ar.row (g + 1) sz n1 e f1)) b' → yk μ h b' := fun b' kU => by
  obtain ⟨j, gj, ma, nj, ej, fj, oK, hj, hm⟩ := kU
  by_cases hJ : j = id
  ·subst hJ; exact ⟨j, g, sz, n, e, f, oK, hh, hm⟩
  ·rw [bX j hJ] at hj; exact ⟨j, gj, ma, nj, ej, fj, oK, hj, hm⟩
 have mw : ∀ j x y b, cH (h.set id (ar.row (g + 1) sz n1 e f1)) j x y b → cH h j x y b := fun j x y b ⟨gj, ma, nj, ej, fj, bx, n', e', f', F', q1, q2, q3, q4⟩ => by
  by_cases hJ : j = id
  ·subst hJ
   rw [iy] at q1
   injection q1 with q1
   injection q1 with e1 e2 e3 e4 e5
   subst e3 e5
   obtain ⟨kp, vp, en, r1, r2, r3, _⟩ := hr.2 x q2
   rw [r1] at q3
   match y, q3 with
   | 0, q3 => simp at q3; rw [q3] at r2; cases r2
   | 1, q3 => simp at q3; rw [q3] at r3; cases r3
   | y + 2, q3 => simp at q3
  ·rw [bX j hJ] at q1
   exact ave
 have kJ : ∀ b', bP μ (h.set id (ar.row (g + 1) sz n1 e f1)) b' → bP μ h b' := fun b' kU => by
  rcases kU with kU | ⟨x, y, z, kU⟩
  ·exact .inl (vu _ kU)
  ·exact .inr ⟨x, y, z, mw _ _ _ _ kU⟩
 have xb : ∀ j x y b', cH h j x y b' → w1.heap[b']? = w.heap[b']? := fun j x y b' hx => iN b' (by
  rintro rfl
  exact hc.ok.hv b' hvb j x y hx)
 have jC : Fr μ h S w μ (h.set id (.row (g + 1) sz n1 e f1)) S w1 := by
  refine ⟨by simp, fun b' _ yh => iN b' (fun he => yh (he ▸ xc)), fun _ hb => hb, fun _ hb => .inl hb, fun b' kU => .inl (kJ b' kU), by omega, hos, Md, Me, fun j gj ma nj ej fj hj => ?_, fun j hj => ?_, fun b' k _ dZ => ?_, fun j gj ma nj ej fj b' j6 hj hm lx => ?_, fun b' j x y hx lx => let ⟨es2, c2, q⟩ := lx; ⟨es2, c2, (xb j x y b' hx).trans q⟩⟩
  ·by_cases hJ : j = id
   ·subst hJ
    rw [hh] at hj
    injection hj with hj
    injection hj with e1 e2 e3 e4 e5
    subst e1 e2 e3 e4 e5
    rw [iy]
    exact ⟨by omega, fun he => absurd he avh⟩
   ·rw [bX j hJ, hj]
    exact avb
  ·have hJ : j ≠ id := by rintro rfl; rw [hh] at hj; cases hj
   rw [bX j hJ]; exact hj
  ·have nS : b' ≠ b := by
    rintro rfl
    exact dZ.rk ⟨es, c, hb⟩
   exact iJ.of_same (iN b' nS) dZ
  ·have hex : ∃ g' bx n' e' f', (h.set id (ar.row (g + 1) sz n1 e f1))[j]? = some (ar.row g' bx n' e' f') := by
    by_cases hJ : j = id
    ·subst hJ; exact ⟨_, _, _, _, _, iy⟩
    ·exact ⟨_, _, _, _, _, (bX j hJ).trans hj⟩
   refine ⟨?_, .inr ⟨hex, hm⟩⟩
   by_cases FD : b' = b
   ·subst FD; exact ⟨N8, c1, hw⟩
   ·obtain ⟨es2, c2, q⟩ := lx
    exact ⟨es2, c2, (iN b' FD).trans q⟩
 refine ⟨jC, ⟨fun j gj ma nj ej fj hj => ?_, ⟨fun b hb => hc.ok.apart b (kJ b hb), fun b hb => by rw [xa]; exact hc.ok.lt b (kJ b hb), fun b hb => by rw [xa]; exact hc.ok.slt b hb, ?_, hc.ok.xd jC, fun b hb x y z hx => hc.ok.hv b (vu b hb) x y z (mw _ _ _ _ hx), fun b _ _ _ _ _ _ hx hy => hc.ok.hh b _ _ _ _ _ _ (mw _ _ _ _ hx) (mw _ _ _ _ hy)⟩⟩⟩
 ·by_cases hJ : j = id
  ·subst hJ
   rw [iy] at hj
   injection hj with hj
   injection hj with e1 e2 e3 e4 e5
   subst e1 e2 e3 e4 e5
   refine ⟨hl, ?_⟩
   rw [eg]
   exact ⟨_, hw, hr⟩
  ·rw [bX j hJ] at hj
   obtain ⟨h1, h2⟩ := hc.heap j gj ma nj ej fj hj
   refine ⟨h1, ?_⟩
   cases hm : μ j with
   | none => rw [hm] at h2; exact h2
   | some p =>
    obtain ⟨b', j6⟩ := p
    rw [hm] at h2
    obtain ⟨o, q1, q2⟩ := h2
    have FD : b' ≠ b := by
     rintro rfl
     exact hJ (hc.ok.inj j id _ _ _ _ _ _ _ _ _ _ _ _ _ hj hh hm eg)
    exact ⟨o, (iN b' FD).trans q1, q2.mono (fun i y pv v hi hy hr => hr.fr jC hc.ok (fun bx n' e' f' F' he b2 np => xb j i y b2 ⟨_, _, _, _, _, _, _, _, _, _, hj, hi, he ▸ hy, np⟩))⟩
 ·intro i j gi O8 ni ei fi gj ma nj ej fj b' o o' hi hj mv lL
  have back : ∀ k gk szk nk ek fk, (h.set id (ar.row (g + 1) sz n1 e f1))[k]? = some (ar.row gk szk nk ek fk) → ∃ g' bx n' e' f', h[k]? = some (ar.row g' bx n' e' f') := fun k gk szk nk ek fk hk => by
   by_cases tW : k = id
   ·subst tW; exact ⟨_, _, _, _, _, hh⟩
   ·rw [bX k tW] at hk; exact ⟨_, _, _, _, _, hk⟩
  obtain ⟨_, _, _, _, _, h1⟩ := back _ _ _ _ _ _ hi
  obtain ⟨_, _, _, _, _, h2⟩ := back _ _ _ _ _ _ hj
  exact hc.ok.inj i j _ _ _ _ _ _ _ _ _ _ _ _ _ h1 h2 mv lL
theorem Ie {w1 : World} (hc : Core μ h S w) (ha : bK w w1) (b : Nat) (hb : w.heap.size ≤ b) (kS : b < w1.heap.size) : Fr μ h S w μ h (fun x => S x ∨ x = b) w1 ∧ Core μ h (fun x => S x ∨ x = b) w1 := by
 have jC : Fr μ h S w μ h (fun x => S x ∨ x = b) w1 := by
  refine ⟨asA _, fun b' kU _ => ha.blocks b' kU, fun _ hs => .inl hs, fun b' kU => ?_, fun _ ho => .inl ho, ha.size, ha.os, ha.tape, ha.output, fun j gj ma nj ej fj hj => ?_, fun _ hd => hd, fun b' k ho dZ => ?_, fun j gj ma nj ej fj b' j6 hj hm lx => ?_, fun b' j x y hx lx => let ⟨es2, c2, q⟩ := lx; ⟨es2, c2, (ha.blocks b' (hc.ok.lt b' (.inr ⟨j, x, y, hx⟩))).trans q⟩⟩
  ·rcases kU with kU | rfl
   ·exact .inl kU
   ·exact .inr (.inr hb)
  ·rw [hj]; exact ⟨asA _, fun _ => ⟨rfl, rfl, rfl, rfl⟩⟩
  ·exact iJ.of_same (ha.blocks b' (hc.ok.lt b' ho)) dZ
  ·obtain ⟨es, c, q⟩ := lx
   exact ⟨⟨es, c, (ha.blocks b' (hc.ok.lt b' (.inl ⟨_, _, _, _, _, _, _, hj, hm⟩))).trans q⟩, .inr ⟨⟨_, _, _, _, _, hj⟩, hm⟩⟩
 refine ⟨jC, ⟨fun j gj ma nj ej fj hj => ?_, ⟨fun b' ho hs => ?_, fun b' ho => asY (hc.ok.lt b' ho) ha.size, fun b' hs => ?_, hc.ok.inj, hc.ok.xd jC, hc.ok.hv, hc.ok.hh⟩⟩⟩
 ·obtain ⟨h1, h2⟩ := hc.heap j gj ma nj ej fj hj
  refine ⟨h1, ?_⟩
  cases hm : μ j with
  | none => rw [hm] at h2; exact h2
  | some p =>
   obtain ⟨b', j6⟩ := p
   rw [hm] at h2
   obtain ⟨o, q1, q2⟩ := h2
   exact ⟨o, (ha.blocks b' (hc.ok.lt b' (.inl ⟨_, _, _, _, _, _, _, hj, hm⟩))).trans q1, q2.mono (fun i y pv v hi hy hr => hr.fr jC hc.ok (fun bx n' e' f' F' he b2 np => ha.blocks b2 (hc.ok.lt b2 (.inr ⟨j, i, y, _, _, _, _, _, _, _, _, _, _, hj, hi, he ▸ hy, np⟩))))⟩
 ·rcases hs with hs | rfl
  ·exact hc.ok.apart b' ho hs
  ·exact absurd (hc.ok.lt b' ho) avh
 ·rcases hs with hs | rfl
  ·exact asY (hc.ok.slt b' hs) ha.size
  ·exact kS
theorem xn (hT : cn P T) (hc : Core μ h S w) (ht : ∀ t, aZ μ h S w (env t) (a.tmps.getD t undef)) (s d : Nat) (x : Operand) (hp : pop P T (.convert s d x) env h K) : eU P ⟨dst, .convert s d x, ty, pos, after, guard⟩ a μ h S w K := by
 simp only [pop] at hp
 split at hp
 ·rename_i e sz L6 z b hs hd hx
  split at hp
  ·rename_i he
   obtain ⟨f', oY, hK⟩ := hp
   have hv := bp ht x
   rw [hx] at hv
   have jN := Lib.run_convert_string_bytes (P := P) w s d e ⟨⟨b⟩⟩ (hT.str _ hs) (hT.slice _ _ _ _ _ hd).1 (hT.int _ _ he)
   have hag : bK w (Lib.bytesWorld w e ⟨⟨b⟩⟩) := by
    have := Lib.bytesWorld_below w e ⟨⟨b⟩⟩
    exact ⟨this.block, this.size, this.os, this.tape, this.output⟩
   obtain ⟨jC, nz⟩ := Ie hc hag w.heap.size (asA _) (by rw [Lib.bytesWorld_size]; omega)
   refine eU.gW (val := .slice (some ⟨w.heap.size, 0, none⟩) b.length (grownCap w b.length 0 e)) (cb rfl ?_) hK ?_ nz jC
   ·rw [hv.kE]
    exact jN
   ·show aF _ _ (.eG 1 b.length f') _
    refine .eG 1 b.length f' w.heap.size 0 _ (fun i _ => .int .u8 (b.getD i 0).toNat) (.inr rfl) (fun i hi => by rw [oY i hi]; rfl) ?_ (fun i j pv hi hj => ?_) (fun i j pv hi hj => ?_)
    ·have := grownCap_ge w b.length 0 e; omega
    ·rw [oY i hi] at hj
     have mV : j = 0 := by
      have := (At.1 hj).1
      simpa using this
     subst mV
     have := Lib.bytesWorld_cell w e ⟨⟨b⟩⟩ i (by show i < b.length; exact hi)
     rw [show 0 + i * 1 + 0 = i by omega]
     exact this
    ·rw [oY i hi] at hj
     have mV : j = 0 := by
      have := (At.1 hj).1
      simpa using this
     subst mV
     simp at hj
     subst hj
     exact .int _ _
  ·exact auJ
 ·exact .nG hc (kX hT hc.heap ht hp)
theorem yx (hT : cn P T) (hc : Core μ h S w) (t : Nat) (hp : pop P T (.makeMap t none) env h K) : eU P ⟨dst, .makeMap t none, ty, pos, after, guard⟩ a μ h S w K := by
 simp only [pop] at hp
 split at hp
 ·rename_i kt et zv eZ
  obtain ⟨f', hK⟩ := hp
  obtain ⟨jC, nz⟩ := za (w1 := w.alloc (.map #[] 0)) hc 2 0 t f' (some (w.heap.size, 0)) ⟨asA _, _, heap_alloc_new w _, rfl, fun i hi => absurd hi (atq _)⟩ (j9 w _) (fun i hi => absurd hi (atq _)) (fun i j pv hi => absurd hi (atq _))
  refine eU.gW (val := .map (some w.heap.size)) (cb rfl rfl) hK ?_ nz jC
  show eH _ _ _ _ _
  unfold eH
  rw [asU (asA _), atz]
  exact ⟨⟨_, rfl⟩, w.heap.size, 0, bn _ _ _, ⟨_, _, heap_alloc_new w _⟩, rfl⟩
 ·exact auJ
theorem tm : ∀ (z xs ys : List PV) (b : Bool), yW z xs ys = some b → xs.all pH = true ∧ xs.all j8 = true
 | z, xs, ys, b, hk => by
  unfold yW at hk
  split at hk
  ·exact ⟨rfl, rfl⟩
  ·obtain ⟨_, c, hc, _⟩ := bG hk
   obtain ⟨h1, h2⟩ := tm _ _ _ c hc
   simp [pH, j8, h1, h2]
  ·obtain ⟨_, c, hc, _⟩ := bG hk
   obtain ⟨h1, h2⟩ := tm _ _ _ c hc
   simp [pH, j8, h1, h2]
  ·obtain ⟨_, c, hc, _⟩ := bG hk
   obtain ⟨h1, h2⟩ := tm _ _ _ c hc
   simp [pH, j8, h1, h2]
  ·cases hk
theorem N9 {ti : TI} {kv kp : PV} {q : Bool} (h0 : kN ti kv kp = some q) : iM kv = true ∧ storable kv = true := by
 unfold kN at h0
 split at h0
 ·exact ⟨rfl, rfl⟩
 ·exact ⟨rfl, rfl⟩
 ·split at h0
  ·exact tm _ _ _ _ h0
  ·cases h0
 ·cases h0
theorem tn {pv : PV} {v : Value} (hs : pH pv = true) (hj : j8 pv = true) (hv : bq μ h S w pv v) : oI pv v := by
 cases pv with
 | int k n => have hv : aF S w (.int k n) v := hv; cases hv; rfl
 | bool b => have hv : aF S w (.bool b) v := hv; cases hv; rfl
 | str s => have hv : aF S w (.str s) v := hv; cases hv; rfl
 | gv => cases hj
 | _ => cases hs
theorem FZ {pv : PV} {v : Value} (hs : iM pv = true) (hj : storable pv = true) (hv : aZ μ h S w pv v) : mY pv v := by
 cases pv with
 | agg cs =>
  obtain ⟨vs, rfl, h1, h2⟩ := (show gJ μ h S w (.agg cs) v from hv)
  refine ⟨vs, rfl, h1, fun j pv FA => ?_⟩
  obtain ⟨u, q1, q2⟩ := h2 j pv FA
  have hm := asP FA
  exact ⟨u, q1, tn (asH.1 hs pv hm) (asH.1 hj pv hm) q2⟩
 | int k n => exact tn (μ := μ) (h := h) (S := S) (w := w) (pv := .int k n) hs hj hv
 | bool b => exact tn (μ := μ) (h := h) (S := S) (w := w) (pv := .bool b) hs hj hv
 | str s => exact tn (μ := μ) (h := h) (S := S) (w := w) (pv := .str s) hs hj hv
 | gv => cases hj
 | _ => cases hs
theorem AX {Ez new : Value} {w' : World} (h1 : Instr.sameBits 10000 Ez new = true) : (Instr.keyThatStays Ez new).run P w' = .ok new w' := by
 simp [Instr.keyThatStays, h1]
theorem Ig {w : World} {b : Nat} {o o' : Obj} (hb : w.heap[b]? = some o) : ({ w with heap := w.heap.setIfInBounds b o' } : World).heap[b]? = some o' := by
 have := (asC.1 hb).1
 simp [this]
theorem EA {w : World} {b b' : Nat} {o' : Obj} (hb : b' ≠ b) : ({ w with heap := w.heap.setIfInBounds b o' } : World).heap[b']? = w.heap[b']? := by
 simp [Array.getElem?_setIfInBounds, atH hb]
theorem vw (hT : cn P T) (hc : Core μ h S w) (ht : ∀ t, aZ μ h S w (env t) (a.tmps.getD t undef)) (t : Nat) (m k x : Operand) (hp : pop P T (.mapUpdate t m k x) env h K) :
  eU P ⟨dst, .mapUpdate t m k x, ty, pos, after, guard⟩ a μ h S w K := by
 have hm := bp ht m
 have hk := bp ht k
 have hx := bp ht x
 simp only [pop] at hp
 split at hp
 ·rename_i kt et zv id eZ hem
  rw [hem] at hm
  split at hp
  ·rename_i g sz n e f yX
   replace hp := aU (bw (bw hp))
   obtain ⟨mG, n', f', hup, hK⟩ := hp
   simp only [As] at mG
   obtain ⟨⟨⟨hkk, VD⟩, asc⟩, asd⟩ := mG
   obtain rfl := (Of asd)
   obtain ⟨hu, inf, z, kh, hz, fQ, VE, rP⟩ := hT.map _ _ _ _ eZ
   have hh := dQ yX
   obtain ⟨bl, base, es, c, eg, ex, hb, hn, DY⟩ := wU hc.heap hh hm.Ap
   obtain ⟨q0, h0⟩ := Option.isSome_iff_exists.1 hkk
   obtain ⟨d, s, hd, hck, Mc⟩ := FB hT hk h0
   obtain ⟨xO, ase⟩ := N9 h0
   have hkr := FZ xO ase hk
   have hvr := FZ VD asc hx
   have sU : ∀ m, m ≤ n → Cx (T.get kt) f m (ev env k) → ∀ j, j < m → ∀ y : MapEntry, es.toList[j]? = some y → pG P kt d s (a.eval k) y.key false := fun m hmn hM j hj y hy => by
    obtain ⟨kp, vp, h1, h2⟩ := hM j hj
    obtain ⟨kp', vp', en, h3, _, _, h4, h5, _⟩ := DY j avh
    rw [h1] at h3
    injection h3 with e1 e2
    subst e1
    have : y = en := by rw [asV] at hy; exact ato (hy.symm.trans h4)
    subst this
    exact Mc kp y.key false h5 h2
   have main : ∀ (N8 : Array MapEntry) (c1 : Nat), (Instr.mapUpdate t (.map (some bl)) (a.eval k) (a.eval x)).run P w = .ok () { w with heap := w.heap.setIfInBounds bl (.map N8 c1) } →
     (N8.size = n' ∧ ∀ i, i < n' → ∃ (kp vp : PV) (en : MapEntry), f' i = [kp, vp] ∧ iM kp = true ∧ iM vp = true ∧ N8[i]? = some en ∧ mY kp en.key ∧ mY vp en.val) →
     eU P ⟨dst, .mapUpdate t m k x, ty, pos, after, guard⟩ a μ h S w K := by
    intro N8 c1 jN hr
    obtain ⟨jC, nz⟩ := N7 (w1 := { w with heap := w.heap.setIfInBounds bl (.map N8 c1) }) hc id g 2 n n' e f f' hh bl base es c eg hb N8 c1 (Ig hb) (fun b' kU => EA kU) avj rfl rfl rfl
     (fun i hi => by obtain ⟨kp, vp, en, h1, _⟩ := hr.2 i hi; rw [h1]; rfl) hr
    refine eU.FE ?_ hK nz jC
    have e1 : (execOp a.eval ⟨dst, .mapUpdate t m k x, ty, pos, after, guard⟩) = (do Instr.mapUpdate t (a.eval m) (a.eval k) (a.eval x); pure .skip : Sem Next) := rfl
    rw [e1, ex]
    simp only [Sem.run_bind, jN, Result.andThen, Sem.run_pure]
   rcases hup with ⟨i0, r, ⟨hi0, hM, kp0, Qs, hq0⟩, hn1, Ga, Oa⟩ | ⟨hM, hn1, Ga, Oa⟩
   ·obtain ⟨kp', vp', en, h3, h8, h6, h4, h5, h7⟩ := DY i0 hi0
    rw [Qs] at h3
    injection h3 with e1 e2
    injection e2 with e2 _
    subst e1 e2
    have w7 := wX (P := P) (w' := w) hd es.toList i0 en (sU i0 avh hM) (by rw [asV]; exact h4) (Mc kp0 en.key true h5 hq0)
    have aoM := AX (P := P) (w' := w) (N6 hk h5 hq0)
    refine main (es.modify i0 fun e => { e with key := a.eval k, val := a.eval x }) c ?_ ⟨by simp [hn, hn1], fun i hi => ?_⟩
    ·simp [Instr.mapUpdate, run_underlying hu, run_getObj_map w bl es c hb, hck, w7, h4, aoM, MapKept.run_setObj_map _ hb]
    ·by_cases Iu : i = i0
     ·subst Iu
      refine ⟨_, _, { en with key := a.eval k, val := a.eval x }, Ga, xO, VD, ?_, hkr, hvr⟩
      rw [atB, if_pos rfl, h4]
      rfl
     ·obtain ⟨kp1, vp1, en1, g1, g2, g3, g4, g5, g6⟩ := DY i avh
      refine ⟨kp1, vp1, en1, by rw [Oa i avh Iu, g1], g2, g3, ?_, g5, g6⟩
      rw [atB, if_neg (atH Iu), g4]
   ·have w7 := sP (P := P) (w' := w) hd es.toList (fun j y hy => sU n (asA _) hM j (by
      have := (At.1 hy).1
      rw [← hn]; simpa using this) y hy)
    refine main (es.push { key := a.eval k, val := a.eval x, born := c }) (c + 1) ?_ ⟨by simp [hn, hn1], fun i hi => ?_⟩
    ·simp [Instr.mapUpdate, run_underlying hu, run_getObj_map w bl es c hb, hck, w7, MapKept.run_setObj_map _ hb]
    ·by_cases Iu : i = n
     ·subst Iu
      refine ⟨_, _, { key := a.eval k, val := a.eval x, born := c }, Ga, xO, VD, ?_, hkr, hvr⟩
      rw [← hn]
      simp
     ·obtain ⟨kp1, vp1, en1, g1, g2, g3, g4, g5, g6⟩ := DY i avh
      refine ⟨kp1, vp1, en1, by rw [Oa i avh, g1], g2, g3, ?_, g5, g6⟩
      rw [Array.getElem?_push, if_neg avh, g4]
  ·exact auJ
 ·exact auJ
theorem AY (hT : cn P T) (hc : Core μ h S w) (ht : ∀ t, aZ μ h S w (env t) (a.tmps.getD t undef)) (bo : BinOp) (t t' : TypeId) (x y : Operand) (hp : pop P T (.binOp bo t x y t') env h K) :
  eU P ⟨dst, .binOp bo t x y t', ty, pos, after, guard⟩ a μ h S w K := by
 simp only [pop] at hp
 split at hp
 ·rename_i e sz L6 z bx n f eZ hx hy
  obtain ⟨h1, h2⟩ := hp
  have rx := bp ht x
  have ry := bp ht y
  rw [hx] at rx
  rw [hy] at ry
  have rx : aF S w (.eG bx n f) (a.eval x) := rx
  have ry : aF S w .bm (a.eval y) := ry
  have ey : a.eval y = .slice none 0 0 := by
   generalize a.eval y = v at ry
   cases ry
   rfl
  obtain ⟨ad, c, ex, hn⟩ : ∃ ad c, a.eval x = .slice ad n c ∧ (ad = none → n = 0) := by
   generalize a.eval x = v at rx
   cases rx with
   | mr _ _ ad c => exact ⟨ad, c, rfl, fun _ => rfl⟩
   | eG _ _ _ b off c vf _ _ _ _ _ => exact ⟨_, c, rfl, fun h0 => by cases h0⟩
  obtain ⟨hu, _⟩ := hT.slice _ _ _ _ _ eZ
  have hg : eqGuard .eql t x y (a.eval x) (a.eval y) = pure () := by rw [ex]; apply eqGuard_at_slice
  have hK : K (.bool ad.isNone) h := by
   cases ad with
   | none => exact h1 (hn rfl)
   | some _ => exact h2
  refine .nG hc (.mk (v := .bool ad.isNone) hK (aF.bool _) fun w' _ => uM (Fx hg ?_))
  rw [ex, ey]
  first | exact Lib.run_eql_slice_nil _ _ _ _ _ _ _ _ hu | exact run_eql_slice_nil _ _ _ _ _ _ hu
 ·exact .nG hc (kX hT hc.heap ht hp)
theorem AZ {i j : Nat} (h : Nat.blt i j = false) : j ≤ i := by
 rcases atu i j with hl | hl
 ·have : Nat.blt i j = true := by simpa using hl
  rw [this] at h; cases h
 ·exact hl
theorem zg {s x : Operand} {t tx : TypeId} {sv xv v' : Value} {w' : World} (hs : a.eval s = sv) (hx : a.eval x = xv) (hr : (Builtin.copy_ #[t, tx] ty #[sv, xv]).run P w = .ok v' w') :
  (execOp a.eval ⟨dst, .call ⟨.builtin .copy, #[s, x], #[t, tx]⟩, ty, pos, after, guard⟩).run P w = .ok (.value v') w' := by
 simp only [execOp, resolve, invoke, builtin, Sem.run_bind, Sem.run_pure, Result.andThen_ok, aud, adr, asB, hs, hx, hr]
theorem CX (t tx ty e : TypeId) (i : TypeInfo) (ht : P.underlying t = some (.slice e)) (hi : P.info? e = some i)
  (sa : Option Addr) (lM ug : Nat) (xv : Value) (m : Nat) (news : Array Value) (w' : World) (hlen : (Builtin.lenOf xv).run P w = .ok m w) (hfc : (Builtin.firstCells i.size m xv).run P w = .ok news w) (hle : m ≤ lM)
  (rP : match sa with | some a => (storeCells a news.toList).run P w = .ok () w' | none => w' = w) :
  (Builtin.copy_ #[t, tx] ty #[.slice sa lM ug, xv]).run P w = .ok (.int .i64 m) w' := by
 have hm : Nat.min m lM = m := Nat.min_eq_left hle
 cases sa with
 | none =>
  have rP : w' = w := rP
  subst rP
  simp [Builtin.copy_, run_underlying ht, sizeOf, typeInfo, hi, hlen, hm, hfc, goInt]
 | some a =>
  have rP : (storeCells a news.toList).run P w = .ok () w' := rP
  simp [Builtin.copy_, run_underlying ht, sizeOf, typeInfo, hi, hlen, hm, hfc, rP, goInt]
theorem Ob (hT : cn P T) (hc : Core μ h S w) (t tx e sz bytes : Nat) (zero : List PV) (eZ : T.get t = .slice e sz bytes zero)
  (s x : Operand) (id g off len n : Nat) (f : Nat → List PV) (hh : h[id]? = some (ar.row g sz n e f)) (hs : aZ μ h S w (.own id g off len) (a.eval s)) (m : Nat) (q : Nat → List PV) (xl : Src P μ h S w (a.eval x) sz m q) (hqo : ∀ (i j : Nat) (pv : PV), i < m → (q i)[j]? = some pv → eL pv = false)
  (hb : m ≤ len) (hK : ∃ h2, cW (h.set id (.row g sz n e (RG f off m q))) h2 ∧ K (.int .i64 m) h2) :
  eU P ⟨dst, .call ⟨.builtin .copy, #[s, x], #[t, tx]⟩, ty, pos, after, guard⟩ a μ h S w K := by
 obtain ⟨hu, fQ, inf, zv, kh, mu, VF, hz, O5, O6, Mb⟩ := hT.slice _ _ _ _ _ eZ
 subst mu VF
 have hid : id < h.length := (At.1 hh).1
 obtain ⟨mD, news, q1, q2, q3, q4⟩ := xl
 have tN := hs.oh
 unfold aW at tN
 rw [hh] at tN
 obtain ⟨⟨sa, sl, oU, Ic⟩, _, tN⟩ := tN
 obtain ⟨hle, tN⟩ := tN rfl
 obtain ⟨hl1, vt, o1, o2, o3, o4⟩ := uh (P := P) hc id g off len inf.size n e f hh _ hs fQ
 have Ma : sl = len := by
  obtain ⟨e1, _⟩ := o4 w (bK.refl w)
  rw [Ic] at e1
  simp [Builtin.lenOf] at e1
  exact e1
 subst Ma
 obtain ⟨hl, aJ⟩ := hc.heap id g _ n e f hh
 obtain ⟨r1, r2⟩ := q4 w (bK.refl w)
 refine eU.rows ?_
 rcases atw m with h0 | h0
 ·subst h0
  have hn : news = #[] := atE (by simpa using q1)
  subst hn
  have hr := CX (P := P) (w := w) t tx ty e inf hu kh sa sl oU (a.eval x) 0 #[] w r1 r2 (atS _) (by cases sa <;> rfl)
  obtain ⟨h2, he, hK⟩ := hK
  refine eU.gW (h' := h) (μ' := μ) (S' := S) (zg Ic rfl hr) ⟨h2, ?_, hK⟩ (.int _ _) hc Fr.refl
  have e0 : RG f off 0 q = f := by
   funext i
   unfold RG
   cases yh : Nat.blt i off
   ·rfl
   ·rfl
  rw [e0] at he
  have es : h.set id (ar.row g inf.size n e f) = h := by
   refine List.ext_getElem? fun j => ?_
   rw [aub]
   by_cases hj : id = j
   ·subst hj; rw [if_pos rfl, if_pos hid, hh]
   ·rw [if_neg hj]
  rwa [es] at he
 ·cases eg : μ id with
  | none =>
   rw [eg] at tN
   rw [Ic] at tN
   injection tN with e1 e2 e3
   omega
  | some p =>
   obtain ⟨b, base⟩ := p
   rw [eg] at tN aJ
   obtain ⟨ad, cap, hv, PR, sS, dZ⟩ := tN
   have OT : ∀ b base, μ id = some (b, base) → ¬ mS w b := fun b' j6 RH => by
    rw [eg] at RH
    injection RH with RH
    injection RH with h1 h2
    subst h1
    exact dZ.rk
   rw [Ic] at hv
   injection hv with e1 e2 e3
   subst e1 e3
   obtain ⟨cur, jL, ny, jq⟩ := bA.cells dZ aJ
   have N5 : base + (off + oU) * inf.size ≤ cur.size := by
    obtain ⟨DZ, e', z', p1, p2⟩ := dZ
    rw [jL] at p1
    injection p1 with p1
    injection p1 with p1 _ _
    subst p1
    exact p2
   rw [asX] at N5
   have sS := sS avh
   subst sS
   have hmul : m * inf.size ≤ oU * inf.size := asQ _ avh
   have rP := run_storeCells_at P b (base + off * inf.size) e news.toList 0 cur w jL avm q3
   rw [aty] at rP
   generalize hc1 : (cur.toList.take (base + off * inf.size) ++ news.toList ++ cur.toList.drop (base + off * inf.size + news.toList.length)).toArray = kr at rP
   have c1 : kr.size = cur.size := by subst hc1; simp; omega
   have c3 : ∀ k : Nat, kr[k]? = if base + off * inf.size ≤ k ∧ k < base + off * inf.size + m * inf.size then news[k - (base + off * inf.size)]? else cur[k]? := fun k => by
    subst hc1
    have hsp := ru cur.toList news.toList (base + off * inf.size) k avm
    rw [aue, hsp]
    simp only [asV, ats, q1]
   have hr := CX (P := P) (w := w) t tx ty e inf hu kh (some ⟨b, base + off * inf.size, none⟩) sl oU (a.eval x) m news (w.setRow b kr) r1 r2 hb rP
   have WC : ∀ i, i < n → (RG f off m q i).length = inf.size := fun i hi => by
    unfold RG
    cases kS : Nat.blt i off
    ·cases np : Nat.blt i (off + m)
     ·exact hl i hi
     ·have Oc := AZ kS
      have Od : i < off + m := by simpa using np
      exact mD _ avh
    ·exact hl i hi
   have me := nx (w1 := w.setRow b kr) hc id g g inf.size n n e f (RG f off m q) hh b base kr (asA _) (fun _ => ⟨eg, rfl⟩)
    (.inr ⟨base, cur, eg, jL, c1.symm⟩) (setRow_heap w b cur _ e _ jL) (by rw [c1]; exact ny) (fun b' _ nS => setRow_other w b b' _ nS) avj rfl rfl rfl WC OT
    (fun i j pv hi hj => by
     have B3 : j < inf.size := by rw [← WC i hi]; exact (At.1 hj).1
     rw [c3]
     have e1 : i * inf.size + inf.size = (i + 1) * inf.size := by rw [asX, Nat.one_mul]
     unfold RG at hj
     cases kS : Nat.blt i off
     ·rw [kS] at hj
      have Oc : off ≤ i := AZ kS
      have e2 : off * inf.size ≤ i * inf.size := asQ _ Oc
      cases np : Nat.blt i (off + m)
      ·rw [np] at hj
       simp only [cond_false] at hj
       have Od : off + m ≤ i := AZ np
       have e3 : (off + m) * inf.size ≤ i * inf.size := asQ _ Od
       rw [asX] at e3
       rw [if_neg avh]
       exact jq i j pv hi hj
      ·rw [np] at hj
       simp only [cond_false, cond_true] at hj
       have Od : i < off + m := by simpa using np
       have e3 : (i + 1) * inf.size ≤ (off + m) * inf.size := asQ _ Od
       have e5 : (off + m) * inf.size = off * inf.size + m * inf.size := asX _ _ _
       rw [if_pos avh]
       obtain ⟨u, p1, p2⟩ := q2 (i - off) j pv avh hj
       refine ⟨u, ?_, p2⟩
       rw [← p1]
       congr 1
       have e4 : i * inf.size = off * inf.size + (i - off) * inf.size := by rw [← asX]; congr 1; omega
       omega
     ·rw [kS] at hj
      simp only [cond_true] at hj
      have Oc : i < off := by simpa using kS
      have e3 : (i + 1) * inf.size ≤ off * inf.size := asQ _ Oc
      rw [if_neg avh]
      exact jq i j pv hi hj) 0 (fun i j bx n' e' f' F' hi hj => by
    rw [asN]
    refine ⟨hi, ?_⟩
    unfold RG at hj
    cases kS : Nat.blt i off
    ·rw [kS] at hj
     have Oc : off ≤ i := AZ kS
     cases np : Nat.blt i (off + m)
     ·rw [np] at hj; exact hj
     ·rw [np] at hj
      have Od : i < off + m := by simpa using np
      have := hqo (i - off) j _ avh hj
      cases this
    ·rw [kS] at hj; exact hj)
   obtain ⟨jC, nz⟩ := me
   exact eU.gW (zg Ic rfl hr) hK (.int _ _) nz jC
theorem EB (hT : cn P T) (hc : Core μ h S w) (ht : ∀ t, aZ μ h S w (env t) (a.tmps.getD t undef)) (args : Array Operand) (ts : Array TypeId) (hp : pop P T (.call ⟨.builtin .copy, args, ts⟩) env h K) :
  eU P ⟨dst, .call ⟨.builtin .copy, args, ts⟩, ty, pos, after, guard⟩ a μ h S w K := by
 obtain ⟨args⟩ := args
 obtain ⟨ts⟩ := ts
 simp only [pop] at hp
 split at hp
 ·rename_i s x t tx
  have hs := bp ht s
  have hx := bp ht x
  have main : ∀ (e sz bytes : Nat) (zero : List PV), T.get t = .slice e sz bytes zero → xo e sz (ev env s) (ev env x) h K →
    eU P ⟨dst, .call ⟨.builtin .copy, #[s, x], #[t, tx]⟩, ty, pos, after, guard⟩ a μ h S w K := by
   intro e sz bytes zero eZ hp
   have fQ := (hT.slice _ _ _ _ _ eZ).2.1
   unfold xo at hp
   split at hp
   ·rename_i id gen off len hes
    rw [hes] at hs
    split at hp
    ·rename_i g bx n e' f hg
     obtain ⟨rfl, hp⟩ := hp
     replace hp := aU hp
     obtain ⟨wZ, hp⟩ := hp
     simp only [As] at wZ
     obtain rfl := Of wZ.1
     obtain rfl := Of wZ.2
     obtain ⟨m, q, ⟨hb, f', oY, hK⟩, xl, hqo⟩ := ui (P := P) hc _ _ hx sz fQ _ hp
     exact Ob hT hc t tx e sz bytes zero eZ s x id g off len n f (dQ hg) hs m q xl hqo hb ⟨_, cW.set _ _ _ _ _ _ _ _ oY, hK⟩
    ·exact auJ
   ·exact auJ
  split at hp
  ·rename_i e sz bytes zero e' bx acB aoL eZ htx
   exact main e sz bytes zero eZ hp
  ·rename_i e sz bytes zero eZ htx
   exact main e sz bytes zero eZ hp
  ·exact auJ
 ·exact auJ
theorem zh (hT : cn P T) (hc : Core μ h S w) (ht : ∀ t, aZ μ h S w (env t) (a.tmps.getD t undef)) {op : Op} (hp : pop P T op env h K) :
  eU P ⟨dst, op, ty, pos, after, guard⟩ a μ h S w K := by
 cases op with
 | store t ad x => exact CA hT hc ht t ad x hp
 | makeSlice t l c => exact D0 hT hc ht t l c hp
 | box t x => exact GX hc ht t x hp
 | alloc t => exact CC hT hc t hp
 | buildSlice t len parts => exact ub hT hc ht t len parts hp
 | convert s d x => exact xn hT hc ht s d x hp
 | binOp bo t x y t' => exact AY hT hc ht bo t t' x y hp
 | makeMap t r => cases r with
  | none => exact yx hT hc t hp
  | some r => exact hp.elim
 | mapUpdate t m k x => exact vw hT hc ht t m k x hp
 | call c =>
  obtain ⟨cal, args, ts⟩ := c
  cases cal with
  | value fo => exact Ex hc ht fo args ts hp
  | invoke r m => exact .nG hc (kX hT hc.heap ht hp)
  | builtin b => cases b with
   | append => exact AW hT hc ht args ts hp
   | copy => exact EB hT hc ht args ts hp
   | _ => exact .nG hc (kX hT hc.heap ht hp)
 | _ => exact .nG hc (kX hT hc.heap ht hp)
end
section
variable {P : Program} {T : lO} {μ : Mu} {h η : List ar} {k : List Nat} {S : Nat → Prop} {w : World} {m : Nat}
theorem vn.get : ∀ (l r : List PV), vn h η k l r → r.length = l.length ∧ ∀ (j : Nat) (pv ew : PV), l[j]? = some pv → r[j]? = some ew → Fz h η k pv ew
 | [], [], _ => ⟨rfl, fun j pv ew hj => by simp at hj⟩
 | [], _ :: _, hh => hh.elim
 | _ :: _, [], hh => hh.elim
 | a :: l, b :: r, hh => by
  obtain ⟨h1, h2⟩ := hh
  obtain ⟨q1, q2⟩ := vn.get l r h2
  refine ⟨by simp [q1], fun j pv ew hj FA => ?_⟩
  cases j with
  | zero =>
   simp at hj FA
   subst hj FA
   exact h1
  | succ j => exact q2 j pv ew avr (by simpa using FA)
theorem kY : ∀ (l : List ar) (r : List Nat) (i : Nat), mh h η k m i l r → l.length = r.length ∧ ∀ (j : Nat) (o : ar), l[j]? = some o → ∃ id, r[j]? = some id ∧ xh h η k m o (i + j) id
 | [], [], i, _ => ⟨rfl, fun j o hj => by simp at hj⟩
 | [], _ :: _, _, hh => hh.elim
 | _ :: _, [], _, hh => hh.elim
 | o :: l, id :: r, i, hh => by
  obtain ⟨h1, h2⟩ := hh
  obtain ⟨q1, q2⟩ := kY l r (i + 1) h2
  refine ⟨by simp [q1], fun j o' hj => ?_⟩
  cases j with
  | zero =>
   simp at hj
   subst hj
   exact ⟨id, rfl, h1⟩
  | succ j =>
   simp at hj
   obtain ⟨id', r1, r2⟩ := q2 j o' hj
   exact ⟨id', by simpa using r1, by rw [show i + (j + 1) = i + 1 + j from by omega]; exact r2⟩
def j4 (μ : Mu) (h : List ar) (k : List Nat) : Mu := fun id' => match k[id']? with | some id => (match h[id]? with | some _ => μ id | none => none) | none => none
theorem oz {μ : Mu} {h : List ar} {k : List Nat} {id id' : Nat} {o : ar} (hk : k[id']? = some id) (ho : h[id]? = some o) : j4 μ h k id' = μ id := by unfold j4; rw [hk]; simp only [ho]
theorem zi {μ : Mu} {h : List ar} {k : List Nat} {id id' : Nat} (hk : k[id']? = some id) (ho : h[id]? = none) : j4 μ h k id' = none := by unfold j4; rw [hk]; simp only [ho]
def zj (μ : Mu) (h : List ar) (k : List Nat) (S : Nat → Prop) : Nat → Prop :=
 fun b => S b ∨ ∃ (id g sz n : Nat) (e : TypeId) (f : Nat → List PV) (base : Nat), id ∉ k ∧ h[id]? = some (ar.row g sz n e f) ∧ (μ id = some (b, base) ∨ ∃ i j, cH h id i j b)
theorem Oe {S S' : Nat → Prop} {w : World} (hS : ∀ b, S b → S' b) {pv : PV} {v : Value} (h : jZ S w pv v) : ∀ ew, xi pv ew → (∀ sz n e f F, pv = .fJ sz n e f F → ∀ b, F b → S' b) → aF S' w ew v := by
 induction h with
 | nil sz e f F hF =>
  intro ew ho _
  cases ho
  exact .mr _ _ _ _
 | wG sz n e f F b off c a cur vf hF hb hlen hc ha dZ aJ kV sW yy CY ih =>
  intro ew ho hk
  have hk := hk _ _ _ _ _ rfl
  cases ho with
  | mk _ _ _ _ f' _ hl hf hoo hp =>
   rcases atw n with h0 | h0
   ·subst h0; exact .mr _ _ _ _
   ·obtain rfl := ha avh
    have get : ∀ (i j : Nat) (ew : PV), i < n → (f' i)[j]? = some ew → ∃ pv, (f i)[j]? = some pv := fun i j ew hi hj => by
     have Db : j < (f i).length := by rw [← hl i hi]; exact (At.1 hj).1
     exact ⟨_, amb Db⟩
    refine .eG sz n f' b off c vf (hk b hF) (fun i hi => by rw [hl i hi]; exact hlen i hi) hc (fun i j ew hi hj => ?_) (fun i j ew hi hj => ?_)
    ·obtain ⟨pv, mV⟩ := get i j ew hi hj
     rw [cell_of_row w b _ cur e (0, 0) hb, ← aJ i j pv hi mV]
    ·obtain ⟨pv, mV⟩ := get i j ew hi hj
     cases hx : eL pv with
     | false =>
      rw [hf i j pv ew hi mV hj hx]
      rcases kV i j pv hi mV with q | ⟨_, _, _, _, _, q⟩
      ·exact q.mono (fun _ _ => rfl) hS
      ·rw [q] at hx; cases hx
     | true =>
      have hoo := hoo i j pv ew hi mV hj hx
      cases pv with
      | fJ lK n2 e2 f2 F2 => exact ih i j lK n2 e2 f2 F2 hi mV ew hoo (fun _ _ _ _ _ he b' kU => by
        injection he with _ _ _ _ he
        subst he
        exact hk b' (yy i j _ _ _ _ _ hi mV b' kU).1)
      | _ => cases hx
theorem um {μ' : Mu} {h' : List ar} {S' : Nat → Prop} {pv : PV} {v : Value} (hp : cc pv = true) (hc : bq μ' h' S' w pv v) : aF S' w pv v := by
 cases pv <;> first | exact hc | cases hp
theorem pV (hc : Core μ h S w) (hh : mh h η k m 0 η k) {pv ew : PV} (hz : Fz h η k pv ew) :
  (∀ v, bq μ h S w pv v → bq (j4 μ h k) η (zj μ h k S) w ew v) ∧ (∀ v, gJ μ h S w pv v → gJ (j4 μ h k) η (zj μ h k S) w ew v) ∧ (∀ v, aZ μ h S w pv v → aZ (j4 μ h k) η (zj μ h k S) w ew v) := by
 have up : ∀ pv v, aF S w pv v → aF (zj μ h k S) w pv v := fun pv v hp => aF.mono (fun _ _ => rfl) (fun b hb => .inl hb) hp
 have same : ∀ pv : PV, (∀ v, bq μ h S w pv v → aF S w pv v) → (∀ v, gJ μ h S w pv v → bq μ h S w pv v) → (∀ v, aZ μ h S w pv v → gJ μ h S w pv v) → ∀ ew : PV, (∀ v, aF S w pv v → aF (zj μ h k S) w ew v) →
   (∀ v, bq μ h S w pv v → bq (j4 μ h k) η (zj μ h k S) w ew v) ∧ (∀ v, gJ μ h S w pv v → bq (j4 μ h k) η (zj μ h k S) w ew v) ∧ (∀ v, aZ μ h S w pv v → bq (j4 μ h k) η (zj μ h k S) w ew v) :=
  fun pv h1 h2 h3 ew hp => ⟨fun v hv => bq.jy (hp v (h1 v hv)), fun v hv => bq.jy (hp v (h1 v (h2 v hv))), fun v hv => bq.jy (hp v (h1 v (h2 v (h3 v hv))))⟩
 induction hz with
 | int k' n => exact same (.int k' n) (fun _ h => h) (fun _ h => h) (fun _ h => h) _ (up _)
 | bool b => exact same (.bool b) (fun _ h => h) (fun _ h => h) (fun _ h => h) _ (up _)
 | str s => exact same (.str s) (fun _ h => h) (fun _ h => h) (fun _ h => h) _ (up _)
 | bm => exact same .bm (fun _ h => h) (fun _ h => h) (fun _ h => h) _ (up _)
 | dA => exact same .dA (fun _ h => h) (fun _ h => h) (fun _ h => h) _ (up _)
 | Wy sz f => exact same .bm (fun _ h => h) (fun _ h => h) (fun _ h => h) (.eG sz 0 f) (fun v hv => by cases hv; exact .mr _ _ _ _)
 | aoA id id' g' bx e' f' hk ho hη =>
  have key : ∀ v, v = Value.slice none 0 0 → aW (j4 μ h k) η w id' g' 0 0 v := fun v hv => by
   unfold aW
   rw [hη]
   refine ⟨⟨_, _, _, hv⟩, asA _, fun _ => ⟨asA _, ?_⟩⟩
   rw [zi hk ho]
   exact hv
  have inv : ∀ v, aF S w .bm v → v = Value.slice none 0 0 := fun v hv => by cases hv; rfl
  exact ⟨fun v hv => key v (inv v hv), fun v hv => key v (inv v hv), fun v hv => key v (inv v hv)⟩
 | fn f => exact same (.fn f) (fun _ h => h) (fun _ h => h) (fun _ h => h) _ (up _)
 | eh cs => exact same (.eh cs) (fun _ h => h) (fun _ h => h) (fun _ h => h) _ (up _)
 | eG sz n f f' hf =>
  exact same (.eG sz n f) (fun _ h => h) (fun _ h => h) (fun _ h => h) (.eG sz n f') (fun v hv => by
   have hv := up _ _ hv
   cases hv with
   | mr _ _ a c => exact .mr _ _ _ _
   | eG _ _ _ b off c vf h1 h2 h3 h4 h5 =>
    exact .eG sz n f' b off c vf h1 (fun i hi => by rw [hf i hi]; exact h2 i hi) h3 (fun i j pv hi hj => h4 i j pv hi avz) (fun i j pv hi hj => h5 i j pv hi avz))
 | gv pv => exact ⟨fun v hv => hv.one, fun _ _ => trivial, fun _ _ => trivial⟩
 | fJ sz n e f F => exact ⟨fun v hv => hv, fun v hv => hv, fun v hv => hv⟩
 | GS sz e f => exact ⟨fun v hv => bq.one hv, fun v hv => bq.one (pv := .bm) (μ := μ) (h := h) hv, fun v hv => bq.one (pv := .bm) (μ := μ) (h := h) hv⟩
 | own id id' g g' sz bx n n' off len e e' f f' hk ho hη hn =>
  have key : ∀ v, aW μ h w id g off len v → aW (j4 μ h k) η w id' g' off len v := fun v hv => by
   unfold aW at hv ⊢
   rw [ho] at hv
   rw [hη]
   obtain ⟨h1, _, mq⟩ := hv
   have I7 := mq rfl
   clear mq
   obtain ⟨h2, h3⟩ := I7
   obtain ⟨_, bV⟩ := kY η k 0 hh
   obtain ⟨RI, r1, r2⟩ := bV id' _ hη
   rw [hk] at r1
   injection r1 with r1
   subst r1
   unfold xh at r2
   rw [ho] at r2
   obtain ⟨_, rfl, _, _⟩ := r2
   refine ⟨h1, asA _, fun _ => ⟨hn, ?_⟩⟩
   have hm : j4 μ h k id' = μ id := oz hk ho
   rw [hm]
   exact h3
  exact ⟨key, key, key⟩
 | aL id id' g g' sz bx n n' i off e e' f f' hk ho hη hn =>
  have key : ∀ v, ba μ h w id g i off v → ba (j4 μ h k) η w id' g' i off v := fun v hv => by
   unfold ba at hv ⊢
   rw [ho] at hv
   rw [hη]
   obtain ⟨h1, _, mq⟩ := hv
   have I7 := mq rfl
   clear mq
   obtain ⟨h2, h3⟩ := I7
   obtain ⟨_, bV⟩ := kY η k 0 hh
   obtain ⟨RI, r1, r2⟩ := bV id' _ hη
   rw [hk] at r1
   injection r1 with r1
   subst r1
   unfold xh at r2
   rw [ho] at r2
   obtain ⟨_, rfl, _, rfl, _⟩ := r2
   refine ⟨h1, asA _, fun _ => ⟨hn, ?_⟩⟩
   have hm : j4 μ h k id' = μ id := oz hk ho
   rw [hm]
   exact h3
  exact ⟨key, key, key⟩
 | lv f bs CZ hl VC =>
  have key : ∀ v, lC μ h w f bs v → lC (j4 μ h k) η w f CZ v := fun v hv => by
   obtain ⟨vs, h1, h2, h3⟩ := hv
   refine ⟨vs, h1, h2.trans hl.symm, fun j p' hj => ?_⟩
   have cM : j < bs.length := by rw [← hl]; exact (At.1 hj).1
   obtain ⟨hk, ⟨sz, n, e, g, ho⟩, bx, n', e', g', hη, hn⟩ := VC j _ p' (amb cM) hj
   obtain ⟨u, q1, q2⟩ := h3 j _ (amb cM)
   refine ⟨u, q1, ?_⟩
   unfold ba at q2 ⊢
   rw [ho] at q2
   rw [hη]
   obtain ⟨a1, _, a2⟩ := q2
   have a3 := a2 rfl
   clear a2
   obtain ⟨a4, a5⟩ := a3
   obtain ⟨_, bV⟩ := kY η k 0 hh
   obtain ⟨RI, r1, r2⟩ := bV p'.1 _ hη
   rw [hk] at r1
   injection r1 with r1
   subst r1
   unfold xh at r2
   rw [ho] at r2
   obtain ⟨_, rfl, _, rfl, _⟩ := r2
   refine ⟨a1, asA _, fun _ => ⟨hn, ?_⟩⟩
   rw [oz hk ho]
   exact a5
  exact ⟨key, key, key⟩
 | lj id id' g g' sz bx n n' e e' f f' hk ho hη =>
  have key : ∀ v, eH μ h w id v → eH (j4 μ h k) η w id' v := fun v hv => by
   unfold eH at hv ⊢
   rw [ho] at hv
   rw [hη]
   obtain ⟨h1, b, base, q1, q2, q3⟩ := hv
   exact ⟨h1, b, base, (oz hk ho).trans q1, q2, q3⟩
  exact ⟨key, key, key⟩
 | frz id g sz n off len e f f' hk ho hl hp hf ih =>
  have key : ∀ v, aW μ h w id g off len v → bq (j4 μ h k) η (zj μ h k S) w (.eG sz len f') v := fun v hv => by
   refine bq.jy ?_
   unfold aW at hv
   rw [ho] at hv
   obtain ⟨_, _, hv⟩ := hv
   obtain ⟨hle, hv⟩ := hv rfl
   obtain ⟨hlr, aJ⟩ := hc.heap id g sz n e f ho
   cases eg : μ id with
   | none =>
    rw [eg] at hv aJ
    have hn : n = 0 := aJ
    have h0 : len = 0 := by omega
    subst h0
    have hv : v = .slice none 0 0 := hv
    subst hv
    exact .mr _ _ _ _
   | some p =>
    obtain ⟨b, base⟩ := p
    rw [eg] at hv aJ
    obtain ⟨ad, cap, rfl, PR, sS, DU⟩ := hv
    obtain ⟨cur, jL, ny, jq⟩ := bA.cells DU aJ
    rcases atw len with h0 | h0
    ·subst h0
     exact .mr _ _ _ _
    ·have sS := sS avh
     subst sS
     have hcl : ∀ (i j : Nat) (ew : PV), i < len → (f' i)[j]? = some ew → ∃ u, w.cell? ⟨b, base + off * sz + i * sz + j, none⟩ = some u ∧ aF (zj μ h k S) w ew u := fun i j ew hi hj => by
      have Db : j < (f (off + i)).length := by rw [← hl i hi]; exact (At.1 hj).1
      have mV := amb Db
      obtain ⟨u, h1, h2⟩ := jq (off + i) j _ avh mV
      have h3 : aF (zj μ h k S) w ew u := by
       by_cases hof : xi (f (off + i))[j] ew
       ·generalize hpv : (f (off + i))[j] = pv at hof h2 mV
        cases hof with
        | mk lK n2 e2 f2 f2' F2 a1 a2 a3 a4 =>
         exact Oe (fun b hb => .inl hb) (show jZ S w (.fJ lK n2 e2 f2 F2) u from h2) _ (.mk lK n2 e2 f2 f2' F2 a1 a2 a3 a4) (fun _ _ _ _ _ he b' kU => by
          injection he with _ _ _ _ he
          subst he
          exact .inr ⟨id, g, sz, n, e, f, base, hk, ho, .inr ⟨off + i, j, _, _, _, _, _, _, _, _, _, _, ho, by omega, mV, kU⟩⟩)
       ·exact um (hp i j ew hi hj) ((ih i j _ ew hi mV hj hof).1 u h2.c)
      refine ⟨u, ?_, h3⟩
      rw [cell_of_row w b _ cur e (0, 0) jL, ← h1]
      congr 1
      rw [asX]
      omega
     refine .eG sz len f' b (base + off * sz) cap (fun i j => (w.cell? ⟨b, base + off * sz + i * sz + j, none⟩).getD undef) (.inr ⟨id, g, sz, n, e, f, base, hk, ho, .inl eg⟩) (fun i hi => by rw [hl i hi]; exact hlr _ avh) PR (fun i j pv hi hj => ?_) (fun i j pv hi hj => ?_)
     ·obtain ⟨u, h1, _⟩ := hcl i j pv hi hj
      rw [h1]; rfl
     ·obtain ⟨u, h1, h2⟩ := hcl i j pv hi hj
      simp only [h1, aul]
      exact h2
  exact ⟨key, key, key⟩
 | agg cs tP hl VC ih =>
  have key : ∀ v, gJ μ h S w (.agg cs) v → gJ (j4 μ h k) η (zj μ h k S) w (.agg tP) v := fun v hv => by
   obtain ⟨vs, h1, h2, h3⟩ := hv
   refine ⟨vs, h1, h2.trans hl.symm, fun j ew hj => ?_⟩
   have Db : j < cs.length := by rw [← hl]; exact (At.1 hj).1
   have mV := amb Db
   obtain ⟨u, q1, q2⟩ := h3 j _ mV
   exact ⟨u, q1, (ih j _ ew mV hj).1 u q2⟩
  exact ⟨fun _ hv => (show False from hv).elim, key, key⟩
 | aV cs tP hl VC ih =>
  refine ⟨fun _ hv => (show False from hv).elim, fun _ hv => (show False from hv).elim, fun v hv => ?_⟩
  obtain ⟨vs, h1, h2, h3⟩ := hv
  refine ⟨vs, h1, h2.trans hl.symm, fun j ew hj => ?_⟩
  have Db : j < cs.length := by rw [← hl]; exact (At.1 hj).1
  have mV := amb Db
  obtain ⟨u, q1, q2⟩ := h3 j _ mV
  exact ⟨u, q1, (ih j _ ew mV hj).2.1 u q2⟩
end
section
variable {P : Program} {T : lO} {μ : Mu} {h η : List ar} {k : List Nat} {S : Nat → Prop} {w : World} {m : Nat}
theorem Og {a a' : PV} (hz : Fz h η k a a') (ha : pH a = true) : pH a' = true ∧ ∀ v, oI a v → oI a' v := by
 cases hz with
 | int k' n => exact ⟨rfl, fun _ h => h⟩
 | bool b => exact ⟨rfl, fun _ h => h⟩
 | str s => exact ⟨rfl, fun _ h => h⟩
 | gv _ => exact ⟨rfl, fun v h => by
   cases a <;> first | (cases ha; done) | (have h : v = _ := h; subst h; rfl) | exact h⟩
 | _ => cases ha
theorem Gb {a a' : PV} (hz : Fz h η k a a') (ha : iM a = true) : iM a' = true ∧ ∀ v, mY a v → mY a' v := by
 cases hz with
 | int k' n => exact ⟨rfl, fun _ h => h⟩
 | bool b => exact ⟨rfl, fun _ h => h⟩
 | str s => exact ⟨rfl, fun _ h => h⟩
 | gv _ => exact ⟨rfl, fun _ _ => trivial⟩
 | agg cs tP hl hc =>
  have el : ∀ j ew, tP[j]? = some ew → ∃ pv, cs[j]? = some pv ∧ pH ew = true ∧ ∀ v, oI pv v → oI ew v := fun j ew hj => by
   have cM : j < cs.length := by rw [← hl]; exact (At.1 hj).1
   have h1 := amb cM
   have h2 := Og (hc j _ _ h1 hj) (asH.1 ha _ (asK cM))
   exact ⟨_, h1, h2⟩
  refine ⟨asH.2 (fun x hx => ?_), fun v hv => ?_⟩
  ·obtain ⟨j, hj, rfl⟩ := atD.1 hx
   obtain ⟨_, _, h2, _⟩ := el j _ (amb hj)
   exact h2
  ·obtain ⟨vs, q1, q2, q3⟩ := hv
   refine ⟨vs, q1, q2.trans hl.symm, fun j ew hj => ?_⟩
   obtain ⟨pv, e1, _, e2⟩ := el j ew hj
   obtain ⟨u, hu, hr⟩ := q3 j pv e1
   exact ⟨u, hu, e2 u hr⟩
 | _ => cases ha
theorem xp : ∀ {l : List Nat} {x i : Nat}, l[i]? = some x → Ih l x = true
 | [], x, i, h => by simp at h
 | a :: r, x, 0, h => by
  simp at h; subst h
  unfold Ih
  rw [show Nat.beq a a = true from atF a]
 | a :: r, x, i + 1, h => by
  unfold Ih
  cases Nat.beq a x
  ·exact xp avx
  ·rfl
theorem qe : ∀ {η : List ar} {k : List Nat} {i id g sz n : Nat} {e : TypeId} {f : Nat → List PV}, η[i]? = some (ar.row g sz n e f) → k[i]? = some id → ∃ j : Nat, (lq η k)[j]? = some id
 | [], _, i, _, _, _, _, _, _, h, _ => by simp at h
 | _ :: _, [], i, _, _, _, _, _, _, _, h => by simp at h
 | .row _ _ _ _ _ :: r, a :: is, 0, id, _, _, _, _, _, _, h => by simp at h; subst h; exact ⟨0, rfl⟩
 | .dead :: r, a :: is, 0, id, _, _, _, _, _, h, _ => by simp at h
 | .row _ _ _ _ _ :: r, a :: is, i + 1, id, _, _, _, _, _, h1, h2 => by
  obtain ⟨j, hj⟩ := qe (i := i) avC avB
  exact ⟨j + 1, by simpa [lq] using hj⟩
 | .dead :: r, a :: is, i + 1, id, _, _, _, _, _, h1, h2 => by
  obtain ⟨j, hj⟩ := qe (i := i) avC avB
  exact ⟨j, by simpa [lq] using hj⟩
theorem qf : ∀ {η : List ar} {k : List Nat} {i j id g sz n g' bx n' : Nat} {e e' : TypeId} {f f' : Nat → List PV}, lE (lq η k) = true → η[i]? = some (ar.row g sz n e f) → k[i]? = some id → η[j]? = some (ar.row g' bx n' e' f') → k[j]? = some id → i = j
 | [], _, i, _, _, _, _, _, _, _, _, _, _, _, _, _, h, _, _, _ => by simp at h
 | _ :: _, [], i, _, _, _, _, _, _, _, _, _, _, _, _, _, _, h, _, _ => by simp at h
 | .row _ _ _ _ _ :: r, a :: is, 0, 0, _, _, _, _, _, _, _, _, _, _, _, _, _, _, _, _ => rfl
 | .row _ _ _ _ _ :: r, a :: is, 0, j + 1, id, _, _, _, _, _, _, _, _, _, _, hn, _, h2, h3, h4 => by
  simp at h2; subst h2
  obtain ⟨q, hq⟩ := qe (η := r) (k := is) (i := j) (by simpa using h3) (by simpa using h4)
  unfold lq lE at hn
  rw [xp hq] at hn; cases hn
 | .row _ _ _ _ _ :: r, a :: is, i + 1, 0, id, _, _, _, _, _, _, _, _, _, _, hn, h1, h2, _, h4 => by
  simp at h4; subst h4
  obtain ⟨q, hq⟩ := qe (η := r) (k := is) (i := i) avC avB
  unfold lq lE at hn
  rw [xp hq] at hn; cases hn
 | .row _ _ _ _ _ :: r, a :: is, i + 1, j + 1, id, _, _, _, _, _, _, _, _, _, _, hn, h1, h2, h3, h4 => by
  unfold lq lE at hn
  cases hm : Ih (lq r is) a with
  | true => rw [hm] at hn; cases hn
  | false =>
   rw [hm] at hn
   rw [qf (η := r) (k := is) (i := i) (j := j) hn avC avB (by simpa using h3) (by simpa using h4)]
 | .dead :: r, a :: is, 0, _, _, _, _, _, _, _, _, _, _, _, _, _, h, _, _, _ => by simp at h
 | .dead :: r, a :: is, _ + 1, 0, _, _, _, _, _, _, _, _, _, _, _, _, _, _, h, _ => by simp at h
 | .dead :: r, a :: is, i + 1, j + 1, id, _, _, _, _, _, _, _, _, _, _, hn, h1, h2, h3, h4 => by
  rw [qf (η := r) (k := is) (i := i) (j := j) hn avC avB (by simpa using h3) (by simpa using h4)]
theorem tq (hc : Core μ h S w) (hh : mh h η k m 0 η k) (hk : lE (lq η k) = true) : Core (j4 μ h k) η (zj μ h k S) w ∧ (∀ b, bP (j4 μ h k) η b → bP μ h b) ∧ ∀ b, zj μ h k S b → S b ∨ bP μ h b := by
 obtain ⟨hlen, bV⟩ := kY η k 0 hh
 have back : ∀ (id' g' bx n' : Nat) (e' : TypeId) (f' : Nat → List PV), η[id']? = some (ar.row g' bx n' e' f') → (n' = 0 ∧ j4 μ h k id' = none) ∨ ∃ (id g : Nat) (f : Nat → List PV), k[id']? = some id ∧ (∃ n, h[id]? = some (ar.row g bx n e' f) ∧ n' ≤ n ∧ (n' = n ∨ bx ≠ 2)) ∧ j4 μ h k id' = μ id ∧
   ∀ i, i < n' → (f' i).length = (f i).length ∧ ∀ (j : Nat) (pv ew : PV), (f i)[j]? = some pv → (f' i)[j]? = some ew → Fz h η k pv ew := fun id' g' bx n' e' f' hη => by
  obtain ⟨id, r1, r2⟩ := bV id' _ hη
  unfold xh at r2
  cases ho : h[id]? with
  | none => rw [ho] at r2; exact .inl ⟨r2.2, zi r1 ho⟩
  | some o =>
   cases o with
   | dead => rw [ho] at r2; exact r2.elim
   | row g sz n e f =>
    rw [ho] at r2
    obtain ⟨_, rfl, r4, rfl, r3⟩ := r2
    refine .inr ⟨id, g, f, r1, ⟨n, ho, ?_⟩, oz r1 ho, fun i hi => vn.get _ _ (r3 i hi)⟩
    rcases r4 with rfl | ⟨_, r5, r6⟩
    ·exact ⟨asA _, .inl rfl⟩
    ·exact ⟨r6, .inr r5⟩
 have vu : ∀ b, yk (j4 μ h k) η b → ∃ id, id ∈ k ∧ ∃ g sz n e f base, h[id]? = some (ar.row g sz n e f) ∧ μ id = some (b, base) := fun b hb => by
  obtain ⟨id', g', bx, n', e', f', base, hη, hm⟩ := hb
  rcases back id' g' bx n' e' f' hη with ⟨_, q3⟩ | ⟨id, g, f, q1, ⟨n, q2, _⟩, q3, _⟩
  ·rw [q3] at hm; cases hm
  ·rw [q3] at hm
   exact ⟨id, asP q1, g, bx, n, e', f, base, q2, hm⟩
 have aoN : ∀ {pv : PV} {sz n : Nat} {e : TypeId} {f : Nat → List PV} {F : Nat → Prop}, Fz h η k pv (.fJ sz n e f F) → pv = .fJ sz n e f F ∨ (pv = .bm ∧ n = 0 ∧ ∀ b, ¬ F b) := fun hz => by
  cases hz with
  | fJ => exact .inl rfl
  | GS => exact .inr ⟨rfl, rfl, fun _ h => h⟩
 have mw : ∀ id' i j b, cH η id' i j b → ∃ id, k[id']? = some id ∧ cH h id i j b ∧ ∃ g sz n e f, η[id']? = some (ar.row g sz n e f) := fun id' i j b ⟨g', bx, n', e', f', lK, n2, e2, f2, F2, q1, q2, q3, q4⟩ => by
  rcases back id' g' bx n' e' f' q1 with ⟨r1, _⟩ | ⟨id, g, f, r1, ⟨n, r2, hle, _⟩, r3, r4⟩
  ·omega
  ·obtain ⟨s1, s2⟩ := r4 i q2
   have Db : j < (f i).length := by rw [← s1]; exact (At.1 q3).1
   have mV := amb Db
   rcases aoN (s2 j _ _ mV q3) with this | ⟨_, _, this⟩
   ·exact ⟨id, r1, ⟨g, bx, n, e', f, _, _, _, _, _, r2, by omega, by rw [mV, this], q4⟩, _, _, _, _, _, q1⟩
   ·exact absurd q4 (this b)
 have kJ : ∀ b, bP (j4 μ h k) η b → bP μ h b := fun b hb => by
  rcases hb with hb | ⟨x, y, z, hb⟩
  ·obtain ⟨id, _, g, sz, n, e, f, base, q2, hm⟩ := vu b hb
   exact .inl ⟨id, g, sz, n, e, f, base, q2, hm⟩
  ·obtain ⟨id, _, q, _⟩ := mw x y z b hb
   exact avg
 have hs : ∀ b, zj μ h k S b → S b ∨ bP μ h b := fun b hb => by
  rcases hb with hb | ⟨id, g, sz, n, e, f, base, _, h1, h2 | ⟨i, j, h2⟩⟩
  ·exact .inl hb
  ·exact .inr (.inl ⟨id, g, sz, n, e, f, base, h1, h2⟩)
  ·exact .inr (.inr ⟨_, _, _, h2⟩)
 refine ⟨⟨fun id' g' bx n' e' f' hη => ?_, ?_⟩, kJ, hs⟩
 ·rcases back id' g' bx n' e' f' hη with ⟨rfl, q3⟩ | ⟨id, g, f, q1, ⟨n, q2, hle, hor⟩, q3, q4⟩
  ·exact ⟨fun i hi => absurd hi (atq _), by rw [q3]⟩
  obtain ⟨r1, r2⟩ := hc.heap id g bx n e' f q2
  refine ⟨fun i hi => (q4 i hi).1.trans (r1 i (asY hi hle)), ?_⟩
  rw [q3]
  cases hm : μ id with
  | none => rw [hm] at r2; have r2 : n = 0 := r2; show n' = 0; omega
  | some p =>
   obtain ⟨b, base⟩ := p
   rw [hm] at r2
   obtain ⟨o, s1, s2⟩ := r2
   refine ⟨o, s1, ?_⟩
   cases o with
   | cells cur e2 z =>
    obtain ⟨x1, x2, x3, s3⟩ := s2
    refine ⟨x1, x2, att (Nat.add_le_add_left (asQ _ hle) _) x3, fun i j ew hi hj => ?_⟩
    have Db : j < (f i).length := by rw [← (q4 i hi).1]; exact (At.1 hj).1
    have mV := amb Db
    obtain ⟨u, t1, t2⟩ := s3 i j _ (asY hi hle) mV
    have hz := (q4 i hi).2 j _ ew mV hj
    refine ⟨u, t1, ?_⟩
    cases hx : eL ew with
    | false => exact bq.k ((pV hc hh hz).1 u t2.c) hx
    | true =>
     cases ew with
     | fJ lK n2 e2 f2 F2 =>
      rcases aoN hz with hq | ⟨hq, rfl, hF⟩
      ·rw [hq] at t2
       exact jZ.mono (fun _ _ => rfl) (fun b hb => .inl hb) (show jZ S w (.fJ lK n2 e2 f2 F2) u from t2) (fun _ _ _ _ _ _ _ _ => rfl)
      ·rw [hq] at t2
       have t2 : aF S w .bm u := t2
       cases t2
       exact jZ.nil _ _ _ _ hF
     | _ => cases hx
   | map es c =>
    obtain ⟨x1, s3⟩ := s2
    have hn : n' = n := by
     rcases hor with h0 | h0
     ·exact h0
     ·rcases atw n with h1 | h1
      ·omega
      ·obtain ⟨kp, vp, en, y1, _⟩ := s3 0 h1
       have := r1 0 h1
       rw [y1] at this
       exact absurd this.symm h0
    subst hn
    refine ⟨x1, fun i hi => ?_⟩
    obtain ⟨kp, vp, en, y1, y2, y3, y4, y5, y6⟩ := s3 i hi
    obtain ⟨z1, z2⟩ := q4 i hi
    rw [y1] at z1 z2
    generalize oY : f' i = l' at z1 z2 ⊢
    rcases l' with _ | ⟨kp', _ | ⟨vp', _ | ⟨c3, l3⟩⟩⟩ <;> simp at z1
    have w1 := Gb (z2 0 kp kp' rfl rfl) y2
    have w2 := Gb (z2 1 vp vp' rfl rfl) y3
    exact ⟨kp', vp', en, rfl, w1.1, w2.1, y4, w1.2 _ y5, w2.2 _ y6⟩
   | _ => exact s2.elim
 ·refine ⟨fun b hb hsb => ?_, fun b hb => hc.ok.lt b (kJ b hb), fun b hb => ?_, ?_, hc.ok.known.PM (fun _ _ => rfl) (fun _ hb => .inl hb), fun b hb x y z hx => ?_, fun b i x y j x' y' hx rq => ?_⟩
  rotate_right 2
  ·obtain ⟨id, _, g, sz, n, e, f, base, q2, hm⟩ := vu b hb
   obtain ⟨RI, _, q, _⟩ := mw x y z b hx
   exact hc.ok.hv b ⟨id, g, sz, n, e, f, base, q2, hm⟩ _ _ _ q
  ·obtain ⟨id1, k1, q1, _, _, _, _, _, r1⟩ := mw i x y b hx
   obtain ⟨RI, k2, q2, _, _, _, _, _, r2⟩ := mw j x' y' b rq
   obtain ⟨e1, e2, e3⟩ := hc.ok.hh b _ _ _ _ _ _ q1 q2
   subst e1
   exact ⟨qf hk r1 k1 r2 k2, e2, e3⟩
  ·rcases hsb with hsb | ⟨RI, g2, lK, n2, e2, f2, aoO, hnk, h1, h2⟩
   ·exact hc.ok.apart b (kJ b hb) hsb
   ·rcases hb with hb | ⟨x, y, z, hb⟩
    ·obtain ⟨id, hik, g, sz, n, e, f, base, q2, hm⟩ := vu b hb
     rcases h2 with h2 | ⟨i, j, h2⟩
     ·have := hc.ok.inj id RI _ _ _ _ _ _ _ _ _ _ _ _ _ q2 h1 hm h2
      subst this
      exact hnk hik
     ·exact hc.ok.hv b ⟨id, g, sz, n, e, f, base, q2, hm⟩ _ _ _ h2
    ·obtain ⟨id, hik, q, _⟩ := mw x y z b hb
     rcases h2 with h2 | ⟨i, j, h2⟩
     ·exact hc.ok.hv b ⟨RI, g2, lK, n2, e2, f2, aoO, h1, h2⟩ _ _ _ q
     ·obtain ⟨e1, _, _⟩ := hc.ok.hh b _ _ _ _ _ _ q h2
      subst e1
      exact hnk (asP hik)
  ·rcases hs b hb with h1 | h1
   ·exact hc.ok.slt b h1
   ·exact hc.ok.lt b h1
  ·intro i j gi O8 ni ei fi gj ma nj ej fj b o o' hi hj mv lL
   rcases back i gi O8 ni ei fi hi with ⟨_, q3⟩ | ⟨id1, g1, f1, q1, ⟨nn1, q2, _⟩, q3, _⟩
   ·rw [q3] at mv; cases mv
   rcases back j gj ma nj ej fj hj with ⟨_, r3⟩ | ⟨RI, g2, f2, r1, ⟨nn2, r2, _⟩, r3, _⟩
   ·rw [r3] at lL; cases lL
   rw [q3] at mv
   rw [r3] at lL
   have := hc.ok.inj id1 RI _ _ _ _ _ _ _ _ _ _ _ _ _ q2 r2 mv lL
   subst this
   exact qf hk hi q1 hj r1
structure Start where
 μ : Mu
 h : List ar
 S : Nat → Prop
 w : World
 nt : Nat
theorem WE {C : Start} (hc : Core μ h S w) (hf : Fr C.μ C.h C.S C.w μ h S w) (hh : mh h η k C.h.length 0 η k) (hk : lE (lq η k) = true) (hm : C.h.length ≤ k.length) :
  Fr C.μ C.h C.S C.w (j4 μ h k) η (zj μ h k S) w := by
 obtain ⟨hlen, bV⟩ := kY η k 0 hh
 obtain ⟨_, kJ, hs⟩ := tq hc hh hk
 have idx : ∀ id, id < C.h.length → ∃ o id', η[id]? = some o ∧ k[id]? = some id' ∧ xh h η k C.h.length o id id' := fun id hid => by
  have cM : id < η.length := by omega
  obtain ⟨id', r1, r2⟩ := bV id _ (amb cM)
  rw [asN] at r2
  exact ⟨_, id', amb cM, r1, r2⟩
 refine ⟨by omega, hf.blocks, fun b hb => .inl (hf.sub b hb), fun b hb => ?_, fun b hb => hf.own b (kJ b hb), hf.size, hf.os, hf.tape, hf.output, fun id g0 RJ n0 e0 f0 h0 => ?_, fun id h0 => ?_, hf.bs, fun id g0 RJ n0 e0 f0 b base h0 hm0 lx => ?_, hf.qE⟩
 rotate_right
 ·have hid : id < C.h.length := (At.1 h0).1
  obtain ⟨o, id', q1, q2, q3⟩ := idx id hid
  obtain ⟨r1, r2⟩ := hf.maps id g0 RJ n0 e0 f0 b base h0 hm0 lx
  refine ⟨r1, ?_⟩
  rw [q1]
  unfold xh at q3
  cases o with
  | dead => exact .inl rfl
  | row g' bx n' e' f' =>
   cases ho : h[id']? with
   | none => rw [ho] at q3; exact absurd q3.1 avh
   | some o2 =>
    cases o2 with
    | dead => rw [ho] at q3; exact q3.elim
    | row g sz n e f =>
     rw [ho] at q3
     obtain ⟨s1, rfl, s2, rfl, _⟩ := q3
     obtain ⟨rfl, rfl⟩ := s1 hid
     obtain rfl := s2.resolve_right (fun hx => absurd hx.1 avh)
     rw [ho] at r2
     rcases r2 with r2 | ⟨_, r3⟩
     ·cases r2
     ·exact .inr ⟨⟨_, _, _, _, _, rfl⟩, (oz q2 ho).trans r3⟩
 ·rcases hs b hb with h1 | h1
  ·exact hf.new b h1
  ·rcases hf.own b h1 with h2 | h2
   ·exact .inr (.inl h2)
   ·exact .inr (.inr h2)
 ·have hid : id < C.h.length := (At.1 h0).1
  obtain ⟨o, id', q1, q2, q3⟩ := idx id hid
  have hg := hf.xe id g0 RJ n0 e0 f0 h0
  rw [q1]
  unfold xh at q3
  cases o with
  | dead => trivial
  | row g' bx n' e' f' =>
   cases ho : h[id']? with
   | none => rw [ho] at q3; exact absurd q3.1 avh
   | some o2 =>
    cases o2 with
    | dead => rw [ho] at q3; exact q3.elim
    | row g sz n e f =>
     rw [ho] at q3
     obtain ⟨r1, rfl, r2, rfl, _⟩ := q3
     obtain ⟨rfl, rfl⟩ := r1 hid
     obtain rfl := r2.resolve_right (fun hx => absurd hx.1 avh)
     rw [ho] at hg
     refine ⟨hg.1, fun he => ?_⟩
     obtain ⟨s1, s2, s3, s4⟩ := hg.2 he
     exact ⟨by rw [oz q2 ho]; exact s1, s2, s3, s4⟩
 ·have hid : id < C.h.length := (At.1 h0).1
  obtain ⟨o, id', q1, q2, q3⟩ := idx id hid
  have hd := hf.dead id h0
  rw [q1]
  unfold xh at q3
  cases o with
  | dead => rfl
  | row g' bx n' e' f' =>
   cases ho : h[id']? with
   | none => rw [ho] at q3; exact absurd q3.1 avh
   | some o2 =>
    cases o2 with
    | dead => rw [ho] at q3; exact q3.elim
    | row g sz n e f =>
     rw [ho] at q3
     obtain ⟨rfl, rfl⟩ := q3.1 hid
     rw [ho] at hd
     cases hd
structure kM (C : Start) (μ : Mu) (h : List ar) (S : Nat → Prop) (env : Env) (a : Act) (w : World) : Prop where
 core : Core μ h S w
 fr : Fr C.μ C.h C.S C.w μ h S w
 tmps : ∀ t, aZ μ h S w (env t) (a.tmps.getD t undef)
 size : a.tmps.size = C.nt
 far : ∀ t, C.nt ≤ t → env t = .gv
 defers : a.defers = []
variable {C : Start} {env : Env} {a : Act}
theorem xq (env : Env) (t : Nat) (v : PV) : my env t v t = v := by simp [my]
theorem A1 (env : Env) {t j : Nat} (v : PV) (hj : j ≠ t) : my env t v j = env j := by
 unfold my
 have : Nat.beq j t = false := by
  cases hb : Nat.beq j t with
  | true => exact (hj (Of hb)).elim
  | false => rfl
 rw [this]; rfl
def kP (nt : Nat) (o : Oper) : Bool := match o.dst with | some t => Nat.blt t nt | none => true
theorem kM.put (hs : kM C μ h S env a w) {μ' : Mu} {h' : List ar} {S' : Nat → Prop} {w' : World} (hf : Fr μ h S w μ' h' S' w') (hc : Core μ' h' S' w') {dst : Option Nat} {v : PV} {val : Value} (hv : aZ μ' h' S' w' v val)
  (hd : ∀ t, dst = some t → t < C.nt) : kM C μ' h' S' (cy env dst v) (a.put dst val) w' := by
 refine ⟨hc, hs.fr.trans hf, fun t => ?_, ?_, fun t ht => ?_, ?_⟩
 ·cases dst with
  | none => exact (hs.tmps t).fr hf hs.core.ok
  | some d =>
   have Oh := hd d rfl
   by_cases htd : t = d
   ·subst htd
    show aZ μ' h' S' w' (my env t v t) _
    rw [xq]
    have : ((a.put (some t) val).tmps).getD t undef = val := by
     have cM : t < a.tmps.size := by rw [hs.size]; exact Oh
     simp [Act.put, cM]
    rw [this]; exact hv
   ·show aZ μ' h' S' w' (my env d v t) _
    rw [A1 env v htd]
    have : ((a.put (some d) val).tmps).getD t undef = a.tmps.getD t undef := by
     simp [Act.put, atK (atH htd)]
    rw [this]; exact (hs.tmps t).fr hf hs.core.ok
 ·cases dst with
  | none => exact hs.size
  | some d => simp [Act.put, hs.size]
 ·cases dst with
  | none => exact hs.far t ht
  | some d =>
   have Oh := hd d rfl
   show my env d v t = _
   rw [A1 env v avh]
   exact hs.far t ht
 ·cases dst with
  | none => exact hs.defers
  | some d => exact hs.defers
theorem kM.xr (hs : kM C μ h S env a w) {t : Nat} {b : Bool} (he : env t = .bool b) : kM C μ h S (my env t (.bool b)) a w := by
 have : my env t (.bool b) = env := by
  funext j
  by_cases hj : j = t
  ·subst hj; rw [xq, he]
  ·rw [A1 env _ hj]
 rw [this]; exact hs
def uo (C : Start) (Q : XQ) : Exit → Act → World → Prop := fun e a w => ∃ μ h S env, kM C μ h S env a w ∧ Q e env h
theorem rD (hs : kM C μ h S env a w) {ops : Array Oper} {j t : Nat} {b : Bool} (hj : (ops.toList[j]?).bind (·.dst) = some t) (he : env t = .bool b) : yielded ops a.tmps j = some b := by
 have hv := hs.tmps t
 rw [he] at hv
 have hv := hv.ku
 have cM : t < a.tmps.size := by
  rcases atu t a.tmps.size with h1 | h1
  ·exact h1
  ·rw [hs.far t (by rw [← hs.size]; exact h1)] at he; cases he
 unfold yielded
 rw [asV] at hj
 rw [hj]
 simp only [aum]
 have : a.tmps[t]? = some (.bool b) := by
  rw [asT cM]
  simp [cM] at hv
  rw [hv]
 rw [this]
theorem rE : aZ μ h S w (.aV []) undef := ⟨#[], rfl, rfl, fun j pv hj => by simp at hj⟩
theorem oA (hs : kM C μ h S env a w) {ops : Array Oper} {j t : Nat} (hj : (ops.toList[j]?).bind (·.dst) = some t) (he : env t = .aV []) : yielded ops a.tmps j = none := by
 have hv := hs.tmps t
 rw [he] at hv
 obtain ⟨vs, hv, _⟩ := hv
 unfold yielded
 rw [asV] at hj
 rw [hj]
 simp only [aum]
 rcases atu t a.tmps.size with h1 | h1
 ·have : a.tmps[t]? = some (.tuple vs) := by
   rw [asT h1]
   simp [h1] at hv
   rw [hv]
  rw [this]
 ·rw [Array.getElem?_eq_none h1]
theorem rF {K : Env → List ar → Prop} (all : List Oper) (o : Oper) (rest : List Oper) (env : Env) (h : List ar) {j : Nat} {want : Bool} (hg : o.guard = some (j, want)) :
  ng P T all K (o :: rest) env h = (match (all[j]?).bind (·.dst) with
     | some t => match env t with
      | .bool b => eK b
        (match (generalizing := false) want with
         | true => pop P T o.op (my env t (.bool true)) h (fun v h' => ng P T all K rest (cy (my env t (.bool true)) o.dst v) h')
         | false => ng P T all K rest (cy (my env t (.bool true)) o.dst (.aV [])) h)
        (match (generalizing := false) want with
         | true => ng P T all K rest (cy (my env t (.bool false)) o.dst (.aV [])) h
         | false => pop P T o.op (my env t (.bool false)) h (fun v h' => ng P T all K rest (cy (my env t (.bool false)) o.dst v) h'))
      | .aV [] => ng P T all K rest (cy env o.dst (.aV [])) h
      | _ => False
     | none => False) := by
 obtain ⟨dst, op, ty, pos, after, guard⟩ := o
 have hg : guard = some (j, want) := hg
 rw [hg]
 rfl
theorem rG (hT : cn P T) (ops : Array Oper) {K : Env → List ar → Prop} {Q : Exit → Act → World → Prop} (hK : ∀ env h a w μ S, K env h → kM C μ h S env a w → Q .normal a w) :
  ∀ (l : List Oper) (env : Env) (h : List ar) (a : Act) (w : World) (μ : Mu) (S : Nat → Prop), ng P T ops.toList K l env h → (∀ o ∈ l, kP C.nt o = true) → kM C μ h S env a w → wpList P ops Q l a w
 | [], env, h, a, w, μ, S, hp, _, hs => hK env h a w μ S hp hs
 | o :: rest, env, h, a, w, μ, S, hp, hd, hs => by
  have RL : ∀ t, o.dst = some t → t < C.nt := fun t ht => by
   have := hd o avj
   unfold kP at this
   rw [ht] at this
   simpa using this
  have hdr : ∀ o ∈ rest, kP C.nt o = true := fun o ho => hd o (by simp [ho])
  have run : ∀ env', kM C μ h S env' a w → pop P T o.op env' h (fun v h' => ng P T ops.toList K rest (cy env' o.dst v) h') → o.wp P a w (wpList P ops Q rest) Q := fun env' iP vb => by
   obtain ⟨dst, op, ty, pos, after, guard⟩ := o
   refine zh (env := env') hT iP.core iP.tmps vb _ _ fun v val h' μ' S' w' RM hv hc hf => ?_
   exact rG hT ops hK rest _ h' _ w' μ' S' RM hdr (iP.put hf hc hv RL)
  have skip : ∀ env', kM C μ h S env' a w → ng P T ops.toList K rest (cy env' o.dst (.aV [])) h → wpList P ops Q rest (a.put o.dst undef) w := fun env' iP vb =>
   rG hT ops hK rest _ h _ w μ S vb hdr (iP.put Fr.refl iP.core rE RL)
  unfold wpList
  cases hg : o.guard with
  | none =>
   have hp : pop P T o.op env h (fun v h' => ng P T ops.toList K rest (cy env o.dst v) h') := by
    exact auC
   rw [if_pos (by simp [Region.wanted, hg])]
   exact .inl (run env hs hp)
  | some p =>
   obtain ⟨j, want⟩ := p
   rw [rF ops.toList o rest env h hg] at hp
   split at hp
   ·rename_i t hj
    split at hp
    ·rename_i b he
     have hy := rD hs hj he
     obtain ⟨ht, hf⟩ := jo hp
     have iP := hs.xr he
     cases b with
     | true =>
      have hp := ht rfl
      cases want with
      | true => rw [if_pos avp]; exact .inl (run _ iP hp)
      | false => rw [if_neg avp]; exact skip _ iP hp
     | false =>
      have hp := hf rfl
      cases want with
      | true => rw [if_neg avp]; exact skip _ iP hp
      | false => rw [if_pos avp]; exact .inl (run _ iP hp)
    ·rename_i he
     rw [if_neg avD]
     exact skip _ hs hp
    ·exact auJ
   ·exact auJ
end
section
variable {P : Program} {T : lO} {μ : Mu} {h h1 : List ar} {S : Nat → Prop} {w : World}
theorem Gc (hc : Core μ h S w) (hx : EC h h1) : ∃ μ', Fr μ h S w μ' h1 S w ∧ Core μ' h1 S w := by
 obtain ⟨id, g, sz, n, e, f, i, j, bx, n', e', f', F, f1, hh, hi, hj, Ga, Oa, rfl⟩ := hx
 have hid : id < h.length := (At.1 hh).1
 obtain ⟨hl, aJ⟩ := hc.heap id g sz n e f hh
 have B3 : j < sz := by rw [← hl i hi]; exact (At.1 hj).1
 have tM : ∃ b0 uS C0 v, μ id = some (b0, uS) ∧ w.heap[b0]? = some (.cells C0 e (0, 0)) ∧ uS + n * sz ≤ C0.size ∧ C0[uS + i * sz + j]? = some v ∧ jZ S w (.fJ bx n' e' f' F) v ∧
   ∀ (i j : Nat) (pv : PV), i < n → (f i)[j]? = some pv → ∃ v : Value, C0[uS + i * sz + j]? = some v ∧ lz μ h S w pv v := by
  cases eg : μ id with
  | none => rw [eg] at aJ; have aJ : n = 0 := aJ; omega
  | some p =>
   obtain ⟨b0, uS⟩ := p
   rw [eg] at aJ
   obtain ⟨o, q1, q2⟩ := aJ
   cases o with
   | cells C0 e0 z =>
    obtain ⟨rfl, rfl, q3, q4⟩ := q2
    obtain ⟨v, r1, r2⟩ := q4 i j _ hi hj
    exact ⟨b0, uS, C0, v, rfl, q1, q3, r1, r2, q4⟩
   | map es c =>
    obtain ⟨kp, vp, en, y1, y2, y3, _⟩ := q2.2 i hi
    rw [y1] at hj
    match j, hj with
    | 0, hj => simp at hj; rw [hj] at y2; cases y2
    | 1, hj => simp at hj; rw [hj] at y3; cases y3
    | y + 2, hj => simp at hj
   | _ => exact q2.elim
 obtain ⟨b0, uS, C0, v, eg, hb0, ny, hv0, htv, jq⟩ := tM
 have Oi : ∀ b, F b → cH h id i j b := fun b hb => ⟨_, _, _, _, _, _, _, _, _, _, hh, hi, hj, hb⟩
 obtain ⟨p, hp⟩ : ∃ p : Option (Nat × Nat), match p with
   | none => v = .slice none 0 0 ∧ n' = 0
   | some (b, off) => F b ∧ ∃ (c : Nat) (a : Addr) (cur : Array Value), w.heap[b]? = some (.cells cur e' (0, 0)) ∧ v = .slice (some a) n' c ∧ n' ≤ c ∧ (0 < c → a = ⟨b, off, none⟩) ∧ off + c * bx ≤ cur.size ∧ (∀ i, i < n' → (f' i).length = bx) ∧
     (∀ (i j : Nat) (pv : PV), i < n' → (f' i)[j]? = some pv → ∃ u, cur[off + i * bx + j]? = some u ∧ (aF S w pv u ∨ ∃ s2 n2 e2 f2 F2, pv = .fJ s2 n2 e2 f2 F2 ∧ jZ S w (.fJ s2 n2 e2 f2 F2) u)) ∧
     (∀ (i j lK n2 : Nat) (e2 : TypeId) (f2 : Nat → List PV) (F2 : Nat → Prop), i < n' → (f' i)[j]? = some (.fJ lK n2 e2 f2 F2) → ∀ b', F2 b' → F b' ∧ b' ≠ b) ∧
     (∀ (i j lK n2 : Nat) (e2 : TypeId) (f2 : Nat → List PV) (F2 : Nat → Prop) (i' j' sz3 n3 : Nat) (e3 : TypeId) (f3 : Nat → List PV) (F3 : Nat → Prop), i < n' → (f' i)[j]? = some (.fJ lK n2 e2 f2 F2) → i' < n' → (f' i')[j']? = some (.fJ sz3 n3 e3 f3 F3) → ∀ b', F2 b' → F3 b' → i = i' ∧ j = j') := by
  cases htv with
  | nil _ _ _ _ hF => exact ⟨none, rfl, rfl⟩
  | wG _ _ _ _ _ b off c a cur vf hF hb hlen VC ha dZ hcel kV sW yy CY =>
   refine ⟨some (b, off), hF, c, a, cur, hb, rfl, VC, ha, dZ, hlen, fun i j pv hi hj => ⟨_, hcel i j pv hi hj, ?_⟩, yy, CY⟩
   rcases kV i j pv hi hj with q | ⟨s2, n2, e2, f2, F2, rfl⟩
   ·exact .inl q
   ·exact .inr ⟨s2, n2, e2, f2, F2, rfl, sW i j _ _ _ _ _ hi hj⟩
 have hpF : ∀ b off, p = some (b, off) → F b := fun b off hq => by subst hq; exact hp.1
 generalize RN : h.set id (ar.row g sz n e f1) ++ [ar.row 0 bx n' e' f'] = h1
 have ast : h1.length = h.length + 1 := by rw [← RN]; simp
 have rH : h1[id]? = some (ar.row g sz n e f1) := by rw [← RN, ata (by simpa using hid)]; simp [hid]
 have vH : h1[h.length]? = some (ar.row 0 bx n' e' f') := by rw [← RN, asU avj]; simp
 have bX : ∀ k, k ≠ id → k < h.length → h1[k]? = h[k]? := fun k hk WG => by rw [← RN, ata (by simpa using WG), atn (atH hk)]
 have inv : ∀ k o, h1[k]? = some o → (k = id ∧ o = ar.row g sz n e f1) ∨ (k = h.length ∧ o = ar.row 0 bx n' e' f') ∨ (k ≠ id ∧ k < h.length ∧ h[k]? = some o) := fun k o hk => by
  by_cases h2 : k = id
  ·subst h2; rw [rH] at hk; injection hk with hk; exact .inl ⟨rfl, hk.symm⟩
  ·by_cases h3 : k = h.length
   ·subst h3; rw [vH] at hk; injection hk with hk; exact .inr (.inl ⟨rfl, hk.symm⟩)
   ·have h4 : k < h.length := by have := (At.1 hk).1; omega
    rw [bX k h2 h4] at hk
    exact .inr (.inr ⟨h2, h4, hk⟩)
 let μ1 : Mu := lG μ h.length p
 have xt : μ1 h.length = p := bn _ _ _
 have lD : ∀ k, k < h.length → μ1 k = μ k := fun k hk => dn μ _ avh
 have xu : ∀ x y pv, x < n → (f1 x)[y]? = some pv → ((x, y) = (i, j) ∧ pv = .own h.length 0 0 n') ∨ ((x, y) ≠ (i, j) ∧ (f x)[y]? = some pv) := fun x y pv hx hy => by
  by_cases hxi : x = i
  ·subst hxi
   rw [Ga, aub] at hy
   by_cases hyj : j = y
   ·subst hyj
    rw [if_pos rfl, if_pos (by rw [hl x hx]; exact B3)] at hy
    injection hy with hy
    exact .inl ⟨rfl, hy.symm⟩
   ·rw [if_neg hyj] at hy
    exact .inr ⟨fun q => hyj (by injection q with _ q; exact q.symm), hy⟩
  ·rw [Oa x hx hxi] at hy
   exact .inr ⟨fun q => hxi (by injection q), hy⟩
 have eJ : ∀ k x y b, cH h1 k x y b → (k ≠ h.length ∧ ¬ (k = id ∧ x = i ∧ y = j) ∧ cH h k x y b) ∨ (k = h.length ∧ cH h id i j b ∧ ∃ lK n2 e2 f2 F2, x < n' ∧ (f' x)[y]? = some (.fJ lK n2 e2 f2 F2) ∧ F2 b) := fun k x y b ⟨g2, s2, n2, e2, f2, s3, n3, e3, f3, F3, q1, q2, q3, q4⟩ => by
  rcases inv k _ q1 with ⟨rfl, ho⟩ | ⟨rfl, ho⟩ | ⟨h2, h3, h4⟩
  ·injection ho with a1 a2 a3 a4 a5
   subst a1 a2 a3 a4 a5
   rcases xu x y _ q2 q3 with ⟨_, hq⟩ | ⟨nS, hq⟩
   ·cases hq
   ·exact .inl ⟨by omega, fun ⟨_, b1, b2⟩ => nS (by rw [b1, b2]), _, _, _, _, _, _, _, _, _, _, hh, q2, hq, q4⟩
  ·injection ho with a1 a2 a3 a4 a5
   subst a1 a2 a3 a4 a5
   refine .inr ⟨rfl, Oi b ?_, _, _, _, _, _, q2, q3, q4⟩
   cases p with
   | none => have := hp.2; omega
   | some pp =>
    obtain ⟨pb, acC⟩ := pp
    obtain ⟨_, _, _, _, _, _, _, _, _, _, _, hs, _⟩ := hp
    exact (hs x y _ _ _ _ _ q2 q3 b q4).1
  ·exact .inl ⟨by omega, fun ⟨b1, _⟩ => h2 b1, _, _, _, _, _, _, _, _, _, _, h4, q2, q3, q4⟩
 have xw : ∀ b, yk μ1 h1 b → yk μ h b ∨ (∃ off, p = some (b, off)) := fun b ⟨k, g2, s2, n2, e2, f2, base, q1, q2⟩ => by
  rcases inv k _ q1 with ⟨rfl, ho⟩ | ⟨rfl, ho⟩ | ⟨h2, h3, h4⟩
  ·rw [lD k hid] at q2
   exact .inl ⟨k, _, _, _, _, _, _, hh, q2⟩
  ·rw [xt] at q2
   exact .inr ⟨base, q2⟩
  ·rw [lD k h3] at q2
   exact .inl ⟨k, _, _, _, _, _, _, h4, q2⟩
 have kJ : ∀ b, bP μ1 h1 b → bP μ h b := fun b hb => by
  rcases hb with hb | ⟨k, x, y, hb⟩
  ·rcases xw b hb with q | ⟨off, q⟩
   ·exact .inl q
   ·exact .inr ⟨_, _, _, Oi b (hpF b off q)⟩
  ·rcases eJ k x y b hb with ⟨_, _, q⟩ | ⟨_, q, _⟩
   ·exact avg
   ·exact avg
 have jC : Fr μ h S w μ1 h1 S w := by
  refine ⟨by omega, fun _ _ _ => rfl, fun _ hb => hb, fun _ hb => .inl hb, fun b hb => .inl (kJ b hb), asA _, rfl, rfl, rfl, fun k g2 s2 n2 e2 f2 hk => ?_, fun k hk => ?_, fun _ _ _ hc => hc, fun k g2 s2 n2 e2 f2 b base hk hm lx => ⟨lx, .inr ⟨?_, ?_⟩⟩, fun _ _ _ _ _ lx => lx⟩
  ·have WG := (At.1 hk).1
   by_cases tW : k = id
   ·subst tW
    rw [hh] at hk
    injection hk with hk
    injection hk with a1 a2 a3 a4 a5
    subst a1 a2 a3 a4 a5
    rw [rH]
    exact ⟨asA _, fun _ => ⟨lD _ hid, rfl, rfl, rfl⟩⟩
   ·rw [bX k tW WG, hk]
    exact ⟨asA _, fun _ => ⟨lD k WG, rfl, rfl, rfl⟩⟩
  ·have WG := (At.1 hk).1
   rw [bX k (by rintro rfl; rw [hh] at hk; cases hk) WG]; exact hk
  ·have WG := (At.1 hk).1
   by_cases tW : k = id
   ·subst tW; exact ⟨_, _, _, _, _, rH⟩
   ·exact ⟨_, _, _, _, _, (bX k tW WG).trans hk⟩
  ·rw [lD k (At.1 hk).1]; exact hm
 refine ⟨μ1, jC, ⟨fun k g2 s2 n2 e2 f2 hk => ?_, ⟨fun b hb => hc.ok.apart b (kJ b hb), fun b hb => hc.ok.lt b (kJ b hb), hc.ok.slt, ?_, hc.ok.known, fun b hb k x y hx => ?_, fun b k x y k' x' y' hx rq => ?_⟩⟩⟩
 ·rcases inv k _ hk with ⟨rfl, ho⟩ | ⟨rfl, ho⟩ | ⟨h2, h3, h4⟩
  ·injection ho with a1 a2 a3 a4 a5
   subst a1 a2 a3 a4 a5
   refine ⟨fun x hx => ?_, ?_⟩
   ·by_cases hxi : x = i
    ·subst hxi; rw [Ga, atU]; exact hl x hx
    ·rw [Oa x hx hxi]; exact hl x hx
   ·rw [lD k hid, eg]
    refine ⟨_, hb0, rfl, rfl, ny, fun x y pv hx hy => ?_⟩
    rcases xu x y pv hx hy with ⟨hq, rfl⟩ | ⟨_, hq⟩
    ·injection hq with r1 r2
     subst r1 r2
     refine ⟨v, hv0, ?_⟩
     show aW μ1 h1 w h.length 0 0 n' v
     unfold aW
     rw [vH]
     cases p with
     | none =>
      obtain ⟨rfl, rfl⟩ := hp
      exact ⟨⟨_, _, _, rfl⟩, asA _, fun _ => ⟨asA _, by rw [xt]⟩⟩
     | some pp =>
      obtain ⟨pb, acC⟩ := pp
      obtain ⟨_, c, a, cur, t1, rfl, t3, t4, t5, _⟩ := hp
      refine ⟨⟨_, _, _, rfl⟩, asA _, fun _ => ⟨by omega, ?_⟩⟩
      rw [xt]
      exact ⟨a, c, rfl, t3, fun h0 => by rw [t4 h0]; simp, cur, e', _, t1, by rw [asN]; exact t5⟩
    ·obtain ⟨u, r1, r2⟩ := jq x y pv hx hq
     exact ⟨u, r1, r2.fr jC hc.ok (fun _ _ _ _ _ _ _ _ => rfl)⟩
  ·injection ho with a1 a2 a3 a4 a5
   subst a1 a2 a3 a4 a5
   rw [xt]
   cases p with
   | none => exact ⟨fun x hx => by have := hp.2; omega, hp.2⟩
   | some pp =>
    obtain ⟨pb, acC⟩ := pp
    obtain ⟨_, c, a, cur, t1, _, t3, _, t5, t6, t7, _, _⟩ := hp
    refine ⟨t6, _, t1, rfl, rfl, att (Nat.add_le_add_left (asQ _ t3) _) t5, fun x y pv hx hy => ?_⟩
    obtain ⟨u, r1, r2⟩ := t7 x y pv hx hy
    refine ⟨u, r1, ?_⟩
    rcases r2 with r2 | ⟨_, _, _, _, _, rfl, r2⟩
    ·exact (bq.jy r2).k (aF.no r2)
    ·exact r2
  ·obtain ⟨q1, q2⟩ := hc.heap k _ _ _ _ _ h4
   refine ⟨q1, ?_⟩
   rw [lD k h3]
   cases hm : μ k with
   | none => rw [hm] at q2; exact q2
   | some pp =>
    obtain ⟨b, base⟩ := pp
    rw [hm] at q2
    obtain ⟨o, r1, r2⟩ := q2
    exact ⟨o, r1, r2.mono (fun _ _ _ _ _ _ hr => hr.fr jC hc.ok (fun _ _ _ _ _ _ _ _ => rfl))⟩
 ·intro a b ga sa na ea fa gb sb nb eb fb wG o o' ha hb hma lx
  have Ez : ∀ k gk sk nk ek fk oo, h1[k]? = some (ar.row gk sk nk ek fk) → μ1 k = some (wG, oo) → (k = h.length ∧ F wG) ∨ (k < h.length ∧ ∃ gk sk nk ek fk, h[k]? = some (ar.row gk sk nk ek fk) ∧ μ k = some (wG, oo)) := fun k gk sk nk ek fk oo hk hm => by
   rcases inv k _ hk with ⟨rfl, ho⟩ | ⟨rfl, ho⟩ | ⟨h2, h3, h4⟩
   ·rw [lD k hid] at hm; exact .inr ⟨hid, _, _, _, _, _, hh, hm⟩
   ·rw [xt] at hm; exact .inl ⟨rfl, hpF _ _ hm⟩
   ·rw [lD k h3] at hm; exact .inr ⟨h3, _, _, _, _, _, h4, hm⟩
  rcases Ez a _ _ _ _ _ _ ha hma with ⟨rfl, q⟩ | ⟨q0, _, _, _, _, _, q1, q2⟩
  ·rcases Ez b _ _ _ _ _ _ hb lx with ⟨rfl, _⟩ | ⟨r0, _, _, _, _, _, r1, r2⟩
   ·rfl
   ·exact absurd (Oi wG q) (hc.ok.hv wG ⟨b, _, _, _, _, _, _, r1, r2⟩ _ _ _)
  ·rcases Ez b _ _ _ _ _ _ hb lx with ⟨rfl, r⟩ | ⟨r0, _, _, _, _, _, r1, r2⟩
   ·exact absurd (Oi wG r) (hc.ok.hv wG ⟨a, _, _, _, _, _, _, q1, q2⟩ _ _ _)
   ·exact hc.ok.inj a b _ _ _ _ _ _ _ _ _ _ _ _ _ q1 r1 q2 r2
 ·rcases xw b hb with q | ⟨off, q⟩
  ·rcases eJ k x y b hx with ⟨_, _, r⟩ | ⟨_, r, _⟩
   ·exact hc.ok.hv b q _ _ _ r
   ·exact hc.ok.hv b q _ _ _ r
  ·rcases eJ k x y b hx with ⟨_, nS, r⟩ | ⟨_, r, lK, n2, e2, f2, F2, r1, r2, r3⟩
   ·exact nS (hc.ok.hh b _ _ _ _ _ _ r (Oi b (hpF b off q)))
   ·subst q
    obtain ⟨_, _, _, _, _, _, _, _, _, _, _, hs, _⟩ := hp
    exact (hs x y _ _ _ _ _ r1 r2 b r3).2 rfl
 ·rcases eJ k x y b hx with ⟨k1, nS, r⟩ | ⟨rfl, r, lK, n2, e2, f2, F2, r1, r2, r3⟩
  ·rcases eJ k' x' y' b rq with ⟨k2, hne', r'⟩ | ⟨rfl, r', _⟩
   ·exact hc.ok.hh b _ _ _ _ _ _ r r'
   ·exact absurd (hc.ok.hh b _ _ _ _ _ _ r r') nS
  ·rcases eJ k' x' y' b rq with ⟨k2, hne', r'⟩ | ⟨rfl, r', sz3, n3, e3, f3, F3, t1, t2, t3⟩
   ·exact absurd (hc.ok.hh b _ _ _ _ _ _ r' r) hne'
   ·cases p with
    | none => have := hp.2; omega
    | some pp =>
     obtain ⟨pb, acC⟩ := pp
     obtain ⟨_, _, _, _, _, _, _, _, _, _, _, _, hd⟩ := hp
     obtain ⟨e1, e2⟩ := hd x y _ _ _ _ _ x' y' _ _ _ _ _ r1 r2 t1 t2 b r3 t3
     exact ⟨rfl, e1, e2⟩
def FAb (μ : Mu) (h : List ar) (sub : Nat) (b : Nat) : Prop := (∃ g sz n e f base, h[sub]? = some (ar.row g sz n e f) ∧ μ sub = some (b, base)) ∨ ∃ x y, cH h sub x y b
theorem Gd (hc : Core μ h S w) {id i j sub : Nat} (hx : ED h id i j sub (FAb μ h sub) h1) : Fr μ h S w μ h1 S w ∧ Core μ h1 S w := by
 obtain ⟨g, sz, n, e, f, g2, lK, n2, e2, f2, f1, hh, hs, nS, hi, hj, hpu, Ga, Oa, rfl⟩ := hx
 have hid : id < h.length := (At.1 hh).1
 have Ma : sub < h.length := (At.1 hs).1
 obtain ⟨hl, aJ⟩ := hc.heap id g sz n e f hh
 have B3 : j < sz := by rw [← hl i hi]; exact (At.1 hj).1
 generalize hFF : FAb μ h sub = F
 rw [hFF] at Ga
 have aoP : ∀ b, F b → bP μ h b := fun b hb => by
  rw [← hFF] at hb
  rcases hb with ⟨g, sz, n, e, f, base, q1, q2⟩ | ⟨x, y, q⟩
  ·exact .inl ⟨sub, _, _, _, _, _, _, q1, q2⟩
  ·exact avg
 generalize RN : (h.set id (ar.row g sz n e f1)).set sub ar.dead = h1
 have rH : h1[id]? = some (ar.row g sz n e f1) := by rw [← RN, atn (atH nS)]; simp [hid]
 have vJ : h1[sub]? = some ar.dead := by rw [← RN, atJ (by simpa using Ma)]
 have bX : ∀ k, k ≠ id → k ≠ sub → h1[k]? = h[k]? := fun k h2 h3 => by rw [← RN, atn (atH h3), atn (atH h2)]
 have inv : ∀ k gk sk nk ek fk, h1[k]? = some (ar.row gk sk nk ek fk) → k ≠ sub ∧ ((k = id ∧ ar.row gk sk nk ek fk = ar.row g sz n e f1) ∨ (k ≠ id ∧ h[k]? = some (ar.row gk sk nk ek fk))) := fun k gk sk nk ek fk hk => by
  have h3 : k ≠ sub := by rintro rfl; rw [vJ] at hk; cases hk
  refine ⟨h3, ?_⟩
  by_cases h2 : k = id
  ·subst h2; rw [rH] at hk; injection hk with hk; exact .inl ⟨rfl, hk.symm⟩
  ·rw [bX k h2 h3] at hk; exact .inr ⟨h2, hk⟩
 have xu : ∀ x y pv, x < n → (f1 x)[y]? = some pv → ((x = i ∧ y = j) ∧ pv = .fJ lK n2 e2 f2 F) ∨ (¬ (x = i ∧ y = j) ∧ (f x)[y]? = some pv) := fun x y pv hx hy => by
  by_cases hxi : x = i
  ·subst hxi
   rw [Ga, aub] at hy
   by_cases hyj : j = y
   ·subst hyj
    rw [if_pos rfl, if_pos (by rw [hl x hx]; exact B3)] at hy
    injection hy with hy
    exact .inl ⟨⟨rfl, rfl⟩, hy.symm⟩
   ·rw [if_neg hyj] at hy
    exact .inr ⟨fun q => hyj q.2.symm, hy⟩
  ·rw [Oa x hx hxi] at hy
   exact .inr ⟨fun q => hxi q.1, hy⟩
 have eJ : ∀ k x y b, cH h1 k x y b → (k = id ∧ x = i ∧ y = j ∧ F b) ∨ (k ≠ sub ∧ ¬ (k = id ∧ x = i ∧ y = j) ∧ cH h k x y b) := fun k x y b ⟨g3, s3, n3, e3, f3, s4, n4, e4, f4, F4, q1, q2, q3, q4⟩ => by
  obtain ⟨h3, hq⟩ := inv k _ _ _ _ _ q1
  rcases hq with ⟨rfl, ho⟩ | ⟨h2, h4⟩
  ·injection ho with a1 a2 a3 a4 a5
   subst a1 a2 a3 a4 a5
   rcases xu x y _ q2 q3 with ⟨⟨r1, r2⟩, hq⟩ | ⟨hne', hq⟩
   ·injection hq with _ _ _ _ hq
    subst hq
    exact .inl ⟨rfl, r1, r2, q4⟩
   ·exact .inr ⟨h3, fun ⟨_, b1⟩ => hne' b1, _, _, _, _, _, _, _, _, _, _, hh, q2, hq, q4⟩
  ·exact .inr ⟨h3, fun ⟨b1, _⟩ => h2 b1, _, _, _, _, _, _, _, _, _, _, h4, q2, q3, q4⟩
 have xw : ∀ b, yk μ h1 b → ∃ k gk sk nk ek fk base, k ≠ sub ∧ h[k]? = some (ar.row gk sk nk ek fk) ∧ μ k = some (b, base) := fun b ⟨k, g3, s3, n3, e3, f3, base, q1, q2⟩ => by
  obtain ⟨h3, hq⟩ := inv k _ _ _ _ _ q1
  rcases hq with ⟨rfl, ho⟩ | ⟨h2, h4⟩
  ·exact ⟨k, _, _, _, _, _, _, h3, hh, q2⟩
  ·exact ⟨k, _, _, _, _, _, _, h3, h4, q2⟩
 have kJ : ∀ b, bP μ h1 b → bP μ h b := fun b hb => by
  rcases hb with hb | ⟨k, x, y, hb⟩
  ·obtain ⟨k, _, _, _, _, _, _, _, q1, q2⟩ := xw b hb
   exact .inl ⟨k, _, _, _, _, _, _, q1, q2⟩
  ·rcases eJ k x y b hb with ⟨_, _, _, q⟩ | ⟨_, _, q⟩
   ·exact aoP b q
   ·exact avg
 have jC : Fr μ h S w μ h1 S w := by
  refine ⟨by rw [← RN]; simp, fun _ _ _ => rfl, fun _ hb => hb, fun _ hb => .inl hb, fun b hb => .inl (kJ b hb), asA _, rfl, rfl, rfl, fun k g3 s3 n3 e3 f3 hk => ?_, fun k hk => ?_, fun _ _ _ hc => hc, fun k g3 s3 n3 e3 f3 b base hk hm lx => ⟨lx, ?_⟩, fun _ _ _ _ _ lx => lx⟩
  ·by_cases tW : k = id
   ·subst tW
    rw [hh] at hk
    injection hk with hk
    injection hk with a1 a2 a3 a4 a5
    subst a1 a2 a3 a4 a5
    rw [rH]
    exact avb
   ·by_cases xO : k = sub
    ·subst xO; rw [vJ]; trivial
    ·rw [bX k tW xO, hk]
     exact avb
  ·by_cases xO : k = sub
   ·subst xO; exact vJ
   ·rw [bX k (by rintro rfl; rw [hh] at hk; cases hk) xO]; exact hk
  ·by_cases xO : k = sub
   ·subst xO; exact .inl vJ
   ·refine .inr ⟨?_, hm⟩
    by_cases tW : k = id
    ·subst tW; exact ⟨_, _, _, _, _, rH⟩
    ·exact ⟨_, _, _, _, _, (bX k tW xO).trans hk⟩
 have WH : ∀ k x y b, k ≠ sub → cH h k x y b → ¬ F b := fun k x y b hk hx hF => by
  rw [← hFF] at hF
  rcases hF with ⟨_, _, _, _, _, _, q1, q2⟩ | ⟨_, _, q⟩
  ·exact hc.ok.hv b ⟨sub, _, _, _, _, _, _, q1, q2⟩ _ _ _ hx
  ·exact hk (hc.ok.hh b _ _ _ _ _ _ hx q).1
 refine ⟨jC, ⟨fun k g3 s3 n3 e3 f3 hk => ?_, ⟨fun b hb => hc.ok.apart b (kJ b hb), fun b hb => hc.ok.lt b (kJ b hb), hc.ok.slt, ?_, hc.ok.known, fun b hb k x y hx => ?_, fun b k x y k' x' y' hx rq => ?_⟩⟩⟩
 ·obtain ⟨h3, hq⟩ := inv k _ _ _ _ _ hk
  rcases hq with ⟨rfl, ho⟩ | ⟨h2, h4⟩
  ·injection ho with a1 a2 a3 a4 a5
   subst a1 a2 a3 a4 a5
   refine ⟨fun x hx => ?_, ?_⟩
   ·by_cases hxi : x = i
    ·subst hxi; rw [Ga, atU]; exact hl x hx
    ·rw [Oa x hx hxi]; exact hl x hx
   ·cases eg : μ k with
    | none => rw [eg] at aJ; exact aJ
    | some p =>
     obtain ⟨b0, uS⟩ := p
     rw [eg] at aJ
     obtain ⟨o, q1, q2⟩ := aJ
     refine ⟨o, q1, ?_⟩
     cases o with
     | cells C0 e0 z =>
      obtain ⟨rfl, rfl, q3, q4⟩ := q2
      refine ⟨rfl, rfl, q3, fun x y pv hx hy => ?_⟩
      rcases xu x y pv hx hy with ⟨⟨rfl, rfl⟩, rfl⟩ | ⟨_, hq⟩
      ·obtain ⟨v, r1, r2⟩ := q4 x y _ hx hj
       refine ⟨v, r1, ?_⟩
       show jZ S w (.fJ lK n2 e2 f2 F) v
       have r2 : aW μ h w sub g2 0 n2 v := r2
       unfold aW at r2
       rw [hs] at r2
       obtain ⟨_, _, r3⟩ := r2
       obtain ⟨_, r4⟩ := r3 rfl
       obtain ⟨s1, s2⟩ := hc.heap sub _ _ _ _ _ hs
       cases hms : μ sub with
       | none =>
        rw [hms] at r4 s2
        have s2 : n2 = 0 := s2
        have r4 : v = .slice none 0 0 := r4
        subst s2 r4
        refine .nil _ _ _ _ (fun b hb => ?_)
        rw [← hFF] at hb
        rcases hb with ⟨_, _, _, _, _, _, _, t2⟩ | ⟨x', y', t1, t2, t3, t4, t5, t6, t7, t8, t9, t10, u1, u2, u3, u4⟩
        ·rw [hms] at t2; cases t2
        ·rw [hs] at u1
         injection u1 with u1
         injection u1 with _ _ u1 _ _
         omega
       | some p =>
        obtain ⟨b, base⟩ := p
        rw [hms] at r4 s2
        obtain ⟨a, cap, rfl, t2, t3, t4⟩ := r4
        obtain ⟨cur, u1, u2, u3⟩ := bA.cells t4 s2
        have dZ : base + cap * lK ≤ cur.size := by
         obtain ⟨DZ, e', z', p1, p2⟩ := t4
         rw [u1] at p1
         injection p1 with p1
         injection p1 with p1 _ _
         subst p1
         rw [asN] at p2
         exact p2
        have vis : yk μ h b := ⟨sub, _, _, _, _, _, _, hs, hms⟩
        have acD : ∀ (x y s5 n5 : Nat) (e5 : TypeId) (f5 : Nat → List PV) (F5 : Nat → Prop), x < n2 → (f2 x)[y]? = some (.fJ s5 n5 e5 f5 F5) → ∀ b', F5 b' → cH h sub x y b' := fun x y s5 n5 e5 f5 F5 hx hy b' kU => ⟨_, _, _, _, _, _, _, _, _, _, hs, hx, hy, kU⟩
        refine .wG lK n2 e2 f2 F b base cap a cur (fun x y => (cur[base + x * lK + y]?).getD undef) (by rw [← hFF]; exact .inl ⟨_, _, _, _, _, _, hs, hms⟩) u1 s1 t2 (fun h0 => by rw [t3 h0]; simp) dZ (fun x y pv hx hy => ?_) (fun x y pv hx hy => ?_) (fun x y s5 n5 e5 f5 F5 hx hy => ?_) (fun x y s5 n5 e5 f5 F5 hx hy b' kU => ?_) (fun x y s5 n5 e5 f5 F5 x' y' s6 n6 e6 f6 F6 hx hy rq hy' b' kU vA => ?_)
        ·obtain ⟨u, w1, _⟩ := u3 x y pv hx hy
         rw [w1]; rfl
        ·obtain ⟨u, w1, w2⟩ := u3 x y pv hx hy
         rw [w1]
         rcases hpu x hx pv (asP hy) with z1 | z1
         ·exact .inl (um z1 w2.c)
         ·exact .inr (by cases pv <;> first | exact ⟨_, _, _, _, _, rfl⟩ | cases z1)
        ·obtain ⟨u, w1, w2⟩ := u3 x y _ hx hy
         rw [w1]
         exact w2
        ·have hq := acD x y s5 n5 e5 f5 F5 hx hy b' kU
         refine ⟨by rw [← hFF]; exact .inr ⟨_, _, hq⟩, ?_⟩
         rintro rfl
         exact hc.ok.hv b' vis _ _ _ hq
        ·exact (hc.ok.hh b' _ _ _ _ _ _ (acD x y s5 n5 e5 f5 F5 hx hy b' kU) (acD x' y' s6 n6 e6 f6 F6 rq hy' b' vA)).2
      ·obtain ⟨u, r1, r2⟩ := q4 x y pv hx hq
       exact ⟨u, r1, r2.fr jC hc.ok (fun _ _ _ _ _ _ _ _ => rfl)⟩
     | map es c =>
      obtain ⟨kp, vp, en, y1, y2, y3, _⟩ := q2.2 i hi
      rw [y1] at hj
      match j, hj with
      | 0, hj => simp at hj; rw [hj] at y2; cases y2
      | 1, hj => simp at hj; rw [hj] at y3; cases y3
      | y + 2, hj => simp at hj
     | _ => exact q2.elim
  ·obtain ⟨q1, q2⟩ := hc.heap k _ _ _ _ _ h4
   refine ⟨q1, ?_⟩
   cases hm : μ k with
   | none => rw [hm] at q2; exact q2
   | some pp =>
    obtain ⟨b, base⟩ := pp
    rw [hm] at q2
    obtain ⟨o, r1, r2⟩ := q2
    exact ⟨o, r1, r2.mono (fun _ _ _ _ _ _ hr => hr.fr jC hc.ok (fun _ _ _ _ _ _ _ _ => rfl))⟩
 ·intro a b ga sa na ea fa gb sb nb eb fb wG o o' ha hb hma lx
  have Ez : ∀ k gk sk nk ek fk, h1[k]? = some (ar.row gk sk nk ek fk) → ∃ gk sk nk ek fk, h[k]? = some (ar.row gk sk nk ek fk) := fun k gk sk nk ek fk hk => by
   rcases (inv k _ _ _ _ _ hk).2 with ⟨rfl, _⟩ | ⟨_, q⟩
   ·exact ⟨_, _, _, _, _, hh⟩
   ·exact ⟨_, _, _, _, _, q⟩
  obtain ⟨_, _, _, _, _, q1⟩ := Ez a _ _ _ _ _ ha
  obtain ⟨_, _, _, _, _, q2⟩ := Ez b _ _ _ _ _ hb
  exact hc.ok.inj a b _ _ _ _ _ _ _ _ _ _ _ _ _ q1 q2 hma lx
 ·obtain ⟨k0, _, _, _, _, _, _, q0, q1, q2⟩ := xw b hb
  rcases eJ k x y b hx with ⟨_, _, _, q⟩ | ⟨_, _, q⟩
  ·rw [← hFF] at q
   rcases q with ⟨_, _, _, _, _, _, r1, r2⟩ | ⟨_, _, r⟩
   ·exact q0 (hc.ok.inj k0 sub _ _ _ _ _ _ _ _ _ _ _ _ _ q1 r1 q2 r2)
   ·exact hc.ok.hv b ⟨k0, _, _, _, _, _, _, q1, q2⟩ _ _ _ r
  ·exact hc.ok.hv b ⟨k0, _, _, _, _, _, _, q1, q2⟩ _ _ _ q
 ·rcases eJ k x y b hx with ⟨rfl, rfl, rfl, q⟩ | ⟨k1, _, q⟩
  ·rcases eJ k' x' y' b rq with ⟨rfl, rfl, rfl, _⟩ | ⟨k2, _, r⟩
   ·exact ⟨rfl, rfl, rfl⟩
   ·exact absurd q (WH _ _ _ _ k2 r)
  ·rcases eJ k' x' y' b rq with ⟨rfl, rfl, rfl, r⟩ | ⟨k2, _, r⟩
   ·exact absurd r (WH _ _ _ _ k1 q)
   ·exact hc.ok.hh b _ _ _ _ _ _ q r
variable {C : Start} {env : Env} {a : Act}
theorem kM.turn (hs : kM C μ h S env a w) {μ' : Mu} (hf : Fr μ h S w μ' h1 S w) (hc : Core μ' h1 S w) : kM C μ' h1 S env a w :=
 ⟨hc, hs.fr.trans hf, fun t => (hs.tmps t).fr hf hs.core.ok, hs.size, hs.far, hs.defers⟩
theorem kM.ex (hs : kM C μ h S env a w) (hx : EC h h1) : ∃ μ', kM C μ' h1 S env a w := by
 obtain ⟨μ', hf, hc⟩ := Gc hs.core hx
 exact ⟨μ', hs.turn hf hc⟩
theorem kM.ab (hs : kM C μ h S env a w) {id i j sub : Nat} {h1 : (Nat → Prop) → List ar} (ha : ∀ F, ED h id i j sub F (h1 F)) : ∃ F, kM C μ (h1 F) S env a w := by
 obtain ⟨hf, hc⟩ := Gd hs.core (ha (FAb μ h sub))
 exact ⟨_, hs.turn hf hc⟩
end
end Go.Am
