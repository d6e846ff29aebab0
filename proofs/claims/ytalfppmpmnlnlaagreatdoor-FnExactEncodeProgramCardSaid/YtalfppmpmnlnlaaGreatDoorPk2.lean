/- Texts of the proof, joined and shortened. -/
import Derived.Test.YtalfppmpmnlnlaaGreatDoorPk1
import Derived.MapKept
import Derived.Lib.ConvBytes
import Derived.Lib.AtoiErrMem
import Derived.Deep.LoopGhost
set_option linter.unusedVariables false
set_option linter.unusedSimpArgs false
namespace Go.Am
open Go Go.RowKit
section
variable {P : Program} {T : oO} {μ : Mu} {h : List aj} {S : Nat → Prop} {w : World}
theorem pP (t tx ty e : TypeId) (i : TypeInfo) (d : TypeDesc) (ht : P.underlying t = some (.slice e)) (hx : P.underlying tx = some d) (hd : (∃ e', d = .slice e') ∨ d = .string) (hi : P.info? e = some i)
  (sa : Option Addr) (oI ye : Nat) (xv : Value) (m : Nat) (news : Array Value) (w' : World) (hlen : (Builtin.lenOf xv).run P w = .ok m w) (Wg : (Builtin.firstCells i.size m xv).run P w = .ok news w) (wR : oI + m ≤ ye)
  (vZ : match sa with | some a => (storeCells (a.add (oI * i.size)) news.toList).run P w = .ok () w' | none => w' = w) :
  (Builtin.append_ #[t, tx] ty #[.slice sa oI ye, xv]).run P w = .ok (.slice sa (oI + m) ye) w' := by
 rcases hd with ⟨e', rfl⟩ | rfl <;> cases sa with
 | none =>
  have vZ : w' = w := vZ
  subst vZ
  simp [Builtin.append_, run_underlying ht, run_underlying hx, sizeOf, typeInfo, hi, hlen, wR, Wg]
 | some a =>
  have vZ : (storeCells (a.add (oI * i.size)) news.toList).run P w = .ok () w' := vZ
  simp [Builtin.append_, run_underlying ht, run_underlying hx, sizeOf, typeInfo, hi, hlen, wR, Wg, vZ]
theorem sH (t tx ty e : TypeId) (i : TypeInfo) (z : Value) (d : TypeDesc) (ht : P.underlying t = some (.slice e)) (hx : P.underlying tx = some d) (hd : (∃ e', d = .slice e') ∨ d = .string) (hi : P.info? e = some i) (hz : i.zero = some z)
  (sa : Option Addr) (oI ye : Nat) (xv : Value) (m : Nat) (zA news : Array Value) (hlen : (Builtin.lenOf xv).run P w = .ok m w) (Jm : (Builtin.firstCells i.size oI (.slice sa oI ye)).run P w.drew = .ok zA w.drew)
  (Wg : (Builtin.firstCells i.size m xv).run P w.drew = .ok news w.drew) (hg : ye < oI + m) (hb0 : 0 < i.bytes) (vC : (oI + m) * i.bytes ≤ 140737488355328) :
  (Builtin.append_ #[t, tx] ty #[.slice sa oI ye, xv]).run P w = .ok (.slice (some ⟨w.heap.size, 0, none⟩) (oI + m) (grownCap w (oI + m) ye e))
   (w.drew.alloc (.cells (zA ++ news ++ Builtin.zeroCells z.cells (grownCap w (oI + m) ye e - (oI + m))) e)) := by
 have hn : ¬ (oI + m ≤ ye) := by omega
 have hle : oI + m ≤ (oI + m) * i.bytes := Nat.le_mul_of_pos_right _ hb0
 have adE : ¬ (9223372036854775807 < ((oI : Int) + (m : Int))) := by omega
 have adW := growslice_fits hg vC
 have adF : ¬ (281474976710656 < Builtin.nextslicecap (oI + m) ye * i.bytes) := by omega
 rcases hd with ⟨e', rfl⟩ | rfl <;>
  simp [Builtin.append_, run_underlying ht, run_underlying hx, sizeOf, typeInfo, zeroValue, hi, hz, hlen, hn, adE, adF, Question.forced, Wg, Jm, newRow, grownCap]
theorem Hz (b off m sz : Nat) (iQ : 0 < sz) (g : Nat → List PV) (hl : ∀ i, i < m → (g i).length = sz)
  (bp : ∀ (i j : Nat) (pv : PV), i < m → (g i)[j]? = some pv → ∃ u, w.cell? ⟨b, off + i * sz + j, none⟩ = some u ∧ oG μ h S w pv u) :
  ∃ news : Array Value, news.size = m * sz ∧ (∀ (i j : Nat) (pv : PV), i < m → (g i)[j]? = some pv → ∃ u, news[i * sz + j]? = some u ∧ oG μ h S w pv u) ∧
   (∀ u ∈ news.toList, u.oneCell' = true) ∧ ∀ w', cy w w' → (loadCells ⟨b, off, none⟩ (m * sz)).run P w' = .ok news w' := by
 let F : Nat → Value := fun q => (w.cell? ⟨b, off + q, none⟩).getD undef
 have hF : ∀ (i j : Nat) (pv : PV), i < m → (g i)[j]? = some pv → w.cell? ⟨b, off + (i * sz + j), none⟩ = some (F (i * sz + j)) ∧ oG μ h S w pv (F (i * sz + j)) := fun i j pv hi hj => by
  obtain ⟨u, h1, h2⟩ := bp i j pv hi hj
  have e : off + (i * sz + j) = off + i * sz + j := by omega
  have e2 : F (i * sz + j) = u := by
   show (w.cell? ⟨b, off + (i * sz + j), none⟩).getD undef = u
   rw [e, h1]; rfl
  rw [e2, e]
  exact ⟨h1, h2⟩
 have hq : ∀ q, q < m * sz → ∃ pv, q / sz < m ∧ (g (q / sz))[q % sz]? = some pv := fun q hq => by
  have h1 : q / sz < m := (Nat.div_lt_iff_lt_mul iQ).2 hq
  have h2 : q % sz < (g (q / sz)).length := by rw [hl _ h1]; exact Nat.mod_lt _ iQ
  exact ⟨_, h1, As h2⟩
 have Dk : ∀ q, q / sz * sz + q % sz = q := fun q => by rw [Nat.mul_comm]; exact Nat.div_add_mod q sz
 refine ⟨((List.range (m * sz)).map F).toArray, by simp, fun i j pv hi hj => ?_, fun u hu => ?_, fun w' ha => ?_⟩
 ·have Jn : j < sz := by rw [← hl i hi]; exact (so.1 hj).1
  have bP : i * sz + j < m * sz := by
   have : (i + 1) * sz ≤ m * sz := aer _ hi
   rw [aex] at this
   omega
  exact ⟨F (i * sz + j), by simp [bP], (hF i j pv hi hj).2⟩
 ·simp only [aeo, List.mem_range] at hu
  obtain ⟨q, hql, rfl⟩ := hu
  obtain ⟨pv, h1, h2⟩ := hq q hql
  have := (hF _ _ pv h1 h2).2.c.one
  rwa [Dk] at this
 ·refine run_loadCells w' ⟨b, off, none⟩ (m * sz) F fun q hql => ?_
  obtain ⟨pv, h1, h2⟩ := hq q hql
  have := (hF _ _ pv h1 h2).1
  rw [Dk] at this
  rw [Addr.add_lit]
  exact ha.cell this
theorem KK : ∀ {l : List PV}, noO l = true → ∀ {j : Nat} {pv : PV}, l[j]? = some pv → dK pv = false
 | [], _, j, pv, hj => by simp at hj
 | c :: r, h, 0, pv, hj => by
  simp at hj
  subst hj
  cases c <;> first | rfl | cases h
 | c :: r, h, j + 1, pv, hj => KK (l := r) (by cases c <;> first | exact h | cases h) agt
def Src (P : Program) (μ : Mu) (h : List aj) (S : Nat → Prop) (w : World) (xv : Value) (sz m : Nat) (g : Nat → List PV) : Prop :=
 (∀ i, i < m → (g i).length = sz) ∧ ∃ news : Array Value, news.size = m * sz ∧ (∀ (i j : Nat) (pv : PV), i < m → (g i)[j]? = some pv → ∃ u, news[i * sz + j]? = some u ∧ oG μ h S w pv u) ∧
  (∀ u ∈ news.toList, u.oneCell' = true) ∧ ∀ w', cy w w' → (Builtin.lenOf xv).run P w' = .ok m w' ∧ (Builtin.firstCells sz m xv).run P w' = .ok news w'
theorem Src.empty (xv : Value) (sz : Nat) (g : Nat → List PV) (hx : ∃ a c, xv = .slice a 0 c) : Src P μ h S w xv sz 0 g := by
 obtain ⟨a, c, rfl⟩ := hx
 refine ⟨fun i hi => absurd hi agi, #[], by simp, fun i j pv hi => absurd hi agi, fun u hu => by simp at hu, fun w' _ => ⟨rfl, ?_⟩⟩
 cases a with
 | none => rfl
 | some a => simp [Builtin.firstCells, loadCells, loadCellsFrom]
theorem yf (hc : Core μ h S w) (id g off len sz n : Nat) (e : TypeId) (f : Nat → List PV) (hh : h[id]? = some (aj.row g sz n e f)) (v : Value) (hv : bG μ h S w (.own id g off len) v) (iQ : 0 < sz) : Src P μ h S w v sz len (fun i => f (off + i)) := by
 have hr := hv.rX
 unfold bE at hr
 rw [hh] at hr
 obtain ⟨_, _, hr⟩ := hr
 obtain ⟨hle, hr⟩ := hr rfl
 obtain ⟨hl, bp⟩ := hc.heap id g sz n e f hh
 cases iH : μ id with
 | none =>
  rw [iH] at hr bp
  have hn : n = 0 := bp
  have h0 : len = 0 := by omega
  subst h0
  exact Src.empty v sz _ ⟨_, _, hr⟩
 | some p =>
  obtain ⟨b, base⟩ := p
  rw [iH] at hr bp
  obtain ⟨ad, cap, hv, QX, wM, Jp⟩ := hr
  obtain ⟨cur, pJ, vC, kB⟩ := cp.cells Jp bp
  rcases aeM len with h0 | h0
  ·subst h0
   exact Src.empty v sz _ ⟨_, _, hv⟩
  ·have wM := wM agi
   subst wM
   obtain ⟨news, q1, q2, q3, q4⟩ := Hz (P := P) (μ := μ) (h := h) (S := S) (w := w) b (base + off * sz) len sz iQ (fun i => f (off + i)) (fun i hi => hl _ agi) (fun i j pv hi hj => by
    obtain ⟨u, r1, r2⟩ := kB (off + i) j pv agi hj
    refine ⟨u, ?_, r2⟩
    rw [cell_of_row w b _ cur e (0, 0) pJ, ← r1]
    congr 1
    rw [aex]
    omega)
   exact ⟨fun i hi => hl _ agi, news, q1, q2, q3, fun w' ha => ⟨by rw [hv]; rfl, by rw [hv]; exact q4 w' ha⟩⟩
theorem yg (hc : Core μ h S w) (x : PV) (xv : Value) (hx : bG μ h S w x xv) (sz : Nat) (iQ : 0 < sz) (K : Nat → (Nat → List PV) → Prop) (hp : HA x h sz K) : ∃ m g, K m g ∧ Src P μ h S w xv sz m g ∧ ∀ (i j : Nat) (pv : PV), i < m → (g i)[j]? = some pv → dK pv = false := by
 unfold HA at hp
 split at hp
 ·exact ⟨_, _, hp, Src.empty _ _ _ ⟨_, _, hx.rj⟩, fun i j pv hi => absurd hi (aeB _)⟩
 ·rename_i bV m g
  replace hp := bB hp
  obtain ⟨CE, hp⟩ := hp
  obtain rfl := Is CE
  refine ⟨m, g, hp, ?_⟩
  rcases hx.uo with ⟨a, c, ex, rfl⟩ | ⟨b, off, c, vf, ex, hS, hl, hc', bp, mX⟩
  ·exact ⟨Src.empty _ _ _ ⟨_, _, ex⟩, fun i j pv hi => absurd hi (aeB _)⟩
  ·obtain ⟨news, q1, q2, q3, q4⟩ := Hz (P := P) (μ := μ) (h := h) (S := S) (w := w) b off m sz iQ g hl (fun i j pv hi hj => ⟨_, bp i j pv hi hj, (bR.j5 (mX i j pv hi hj)).k (aT.no (mX i j pv hi hj))⟩)
   exact ⟨⟨hl, news, q1, q2, q3, fun w' ha => ⟨by rw [ex]; rfl, by rw [ex]; exact q4 w' ha⟩⟩, fun i j pv hi hj => aT.no (mX i j pv hi hj)⟩
 ·rename_i id gen off m
  split at hp
  ·rename_i g bV n e f hg
   obtain ⟨rfl, wq, hp⟩ := hp
   replace hp := bB hp
   obtain ⟨CE, hp⟩ := hp
   obtain rfl := Is CE
   exact ⟨m, _, hp, yf hc id g off m sz n e f (eW hg) xv hx iQ, fun i j pv hi hj => KK (wq i hi) hj⟩
  ·exact afL
 ·rename_i s
  replace hp := bB hp
  obtain ⟨CE, hp⟩ := hp
  obtain rfl := Is CE
  refine ⟨_, _, hp, ⟨fun i hi => rfl, (s.map fun b => Value.int .u8 b.toNat).toArray, by simp, fun i j pv hi hj => ?_, fun u hu => ?_, fun w' _ => ⟨by rw [hx.mE]; rfl, ?_⟩⟩, fun i j pv hi hj => ?_⟩
  ·cases j with
   | zero =>
    simp at hj
    subst hj
    refine ⟨.int .u8 (s.getD i 0).toNat, ?_, aT.int _ _⟩
    rw [aee, As hi]
    simp [hi]
   | succ j => simp at hj
  ·simp at hu
   obtain ⟨b, _, rfl⟩ := hu
   rfl
  ·rw [hx.mE]
   have e1 : (ByteArray.mk ⟨s⟩).extract 0 s.length = ByteArray.mk ⟨s⟩ := by rw [yU]; simp
   simp only [Builtin.firstCells, e1]
   simp
  ·cases j with
   | zero => simp at hj; subst hj; rfl
   | succ j => simp at hj
 ·exact afL
end
section
variable {P : Program} {T : oO} {μ : Mu} {h : List aj} {S : Nat → Prop} {w : World}
theorem CK (hc : Core μ h S w) (id g g1 sz n : Nat) (e : TypeId) (f f1 : Nat → List PV) (hh : h[id]? = some (aj.row g sz n e f)) (iH : μ id = none) (hg : g < g1) :
  Fr μ h S w μ (h.set id (.row g1 sz 0 e f1)) S w ∧ Core μ (h.set id (.row g1 sz 0 e f1)) S w := by
 have hid : id < h.length := (so.1 hh).1
 have jE : (h.set id (aj.row g1 sz 0 e f1))[id]? = some (aj.row g1 sz 0 e f1) := by simp [hid]
 have cQ : ∀ j, j ≠ id → (h.set id (aj.row g1 sz 0 e f1))[j]? = h[j]? := fun j hj => by rw [aeJ (Ne.symm hj)]
 have zB : ∀ b, B5 μ (h.set id (aj.row g1 sz 0 e f1)) b → B5 μ h b := fun b hb => by
  obtain ⟨j, gj, pI, nj, ej, fj, sF, hj, hm⟩ := hb
  by_cases iN : j = id
  ·subst iN; rw [iH] at hm; cases hm
  ·rw [cQ j iN] at hj; exact ⟨j, gj, pI, nj, ej, fj, sF, hj, hm⟩
 have qa : ∀ j x y b, dL (h.set id (aj.row g1 sz 0 e f1)) j x y b → dL h j x y b := fun j x y b ⟨gj, pI, nj, ej, fj, bV, n', e', f', F', q1, q2, q3, q4⟩ => by
  by_cases iN : j = id
  ·subst iN
   rw [jE] at q1
   injection q1 with q1
   injection q1 with e1 e2 e3 e4 e5
   omega
  ·rw [cQ j iN] at q1
   exact ⟨_, _, _, _, _, _, _, _, _, _, q1, q2, q3, q4⟩
 have mL : ∀ b, cz μ (h.set id (aj.row g1 sz 0 e f1)) b → cz μ h b := fun b hb => by
  rcases hb with hb | ⟨x, y, z, hb⟩
  ·exact .inl (zB b hb)
  ·exact .inr ⟨x, y, z, qa _ _ _ _ hb⟩
 have lr : Fr μ h S w μ (h.set id (.row g1 sz 0 e f1)) S w := by
  refine ⟨by simp, fun _ _ _ => rfl, fun _ hb => hb, fun _ hb => .inl hb, fun b hb => .inl (mL b hb), aeb _, rfl, rfl, rfl, fun j gj pI nj ej fj hj => ?_, fun j hj => ?_, fun _ _ _ ig => ig, fun j gj pI nj ej fj b base hj hm nX => ⟨nX, .inr ⟨⟨_, _, _, _, _, (cQ j (by rintro rfl; rw [iH] at hm; cases hm)).trans hj⟩, hm⟩⟩, fun _ _ _ _ _ nX => nX⟩
  ·by_cases iN : j = id
   ·subst iN
    rw [hh] at hj
    injection hj with hj
    injection hj with e1 e2 e3 e4 e5
    subst e1 e2 e3 e4 e5
    rw [jE]
    exact ⟨by omega, fun he => absurd he agi⟩
   ·rw [cQ j iN, hj]
    exact agf
  ·have iN : j ≠ id := by rintro rfl; rw [hh] at hj; cases hj
   rw [cQ j iN]; exact hj
 refine ⟨lr, ⟨fun j gj pI nj ej fj hj => ?_, ⟨fun b hb => hc.ok.apart b (mL b hb), fun b hb => hc.ok.lt b (mL b hb), hc.ok.slt, ?_, hc.ok.known, fun b hb x y z hx => hc.ok.hv b (zB b hb) x y z (qa _ _ _ _ hx), fun b _ _ _ _ _ _ hx hy => hc.ok.hh b _ _ _ _ _ _ (qa _ _ _ _ hx) (qa _ _ _ _ hy)⟩⟩⟩
 ·by_cases iN : j = id
  ·subst iN
   rw [jE] at hj
   injection hj with hj
   injection hj with e1 e2 e3 e4 e5
   subst e1 e2 e3 e4 e5
   refine ⟨fun i hi => absurd hi agi, ?_⟩
   rw [iH]
  ·rw [cQ j iN] at hj
   obtain ⟨h1, h2⟩ := hc.heap j gj pI nj ej fj hj
   refine ⟨h1, ?_⟩
   cases hm : μ j with
   | none => rw [hm] at h2; exact h2
   | some p =>
    obtain ⟨b, base⟩ := p
    rw [hm] at h2
    obtain ⟨o, q1, q2⟩ := h2
    exact ⟨o, q1, q2.mono (fun _ _ _ _ _ _ hr => hr.fr lr hc.ok (fun _ _ _ _ _ _ _ _ => rfl))⟩
 ·intro i j gi P1 ni ei fi gj pI nj ej fj b o o' hi hj p9 oH
  have Mf : i ≠ id := by rintro rfl; rw [iH] at p9; cases p9
  have iN : j ≠ id := by rintro rfl; rw [iH] at oH; cases oH
  rw [cQ i Mf] at hi
  rw [cQ j iN] at hj
  exact hc.ok.inj i j _ _ _ _ _ _ _ _ _ _ _ _ _ hi hj p9 oH
variable {a : Act} {env : Env} {K : PV → List aj → Prop} {dst : Option Tmp} {ty : TypeId} {pos : String} {after : Array Edge} {guard : Option (Nat × Bool)}
theorem tU (z : Array Value) (n : Nat) : (Builtin.zeroCells z n).size = n * z.size := by simp [Builtin.zeroCells]
theorem nU {s x : Operand} {t tx : TypeId} {sv xv v' : Value} {w' : World} (hs : a.eval s = sv) (hx : a.eval x = xv) (hr : (Builtin.append_ #[t, tx] ty #[sv, xv]).run P w = .ok v' w') :
  (execOp a.eval ⟨dst, .call ⟨.builtin .append, #[s, x], #[t, tx]⟩, ty, pos, after, guard⟩).run P w = .ok (.value v') w' := by
 simp only [execOp, resolve, invoke, builtin, Sem.run_bind, Sem.run_pure, Result.andThen_ok, List.map_toArray, aeg, aem, hs, hx, hr]
theorem JK {sz l m : Nat} {f q : Nat → List PV} {zA news rest : Array Value} (ho : zA.size = l * sz) (hn : news.size = m * sz)
  (h1 : ∀ (i j : Nat) (pv : PV), i < l → (f i)[j]? = some pv → ∃ u, zA[i * sz + j]? = some u ∧ oG μ h S w pv u)
  (h2 : ∀ (i j : Nat) (pv : PV), i < m → (q i)[j]? = some pv → ∃ u, news[i * sz + j]? = some u ∧ oG μ h S w pv u)
  (Ed : ∀ i, i < l → (f i).length = sz) (LM : ∀ i, i < m → (q i).length = sz) :
  ∀ (i j : Nat) (pv : PV), i < l + m → (bif Nat.blt i l then f i else q (i - l))[j]? = some pv → ∃ u, (zA ++ news ++ rest)[i * sz + j]? = some u ∧ oG μ h S w pv u := by
 intro i j pv hi hj
 by_cases uq : i < l
 ·have hb : Nat.blt i l = true := by simpa using uq
  rw [hb] at hj
  simp only [cond_true] at hj
  obtain ⟨u, q1, q2⟩ := h1 i j pv uq hj
  have bP : i * sz + j < zA.size := (aed.1 q1).1
  exact ⟨u, by rw [aeL ago, aeL bP]; exact q1, q2⟩
 ·have hb : Nat.blt i l = false := by
   cases hh : Nat.blt i l with
   | true => exact (uq (by simpa using hh)).elim
   | false => rfl
  rw [hb] at hj
  simp only [cond_false] at hj
  obtain ⟨u, q1, q2⟩ := h2 (i - l) j pv agi hj
  have bP : (i - l) * sz + j < news.size := (aed.1 q1).1
  have hmul : i * sz = l * sz + (i - l) * sz := by rw [← aex]; congr 1; omega
  refine ⟨u, ?_, q2⟩
  rw [aeL ago, Array.getElem?_append_right agi, ← q1]
  congr 1
  omega
theorem OV {sz l m : Nat} {f q : Nat → List PV} (Ed : ∀ i, i < l → (f i).length = sz) (LM : ∀ i, i < m → (q i).length = sz) : ∀ i, i < l + m → (bif Nat.blt i l then f i else q (i - l)).length = sz := by
 intro i hi
 by_cases uq : i < l
 ·have hb : Nat.blt i l = true := by simpa using uq
  rw [hb]; exact Ed i uq
 ·have hb : Nat.blt i l = false := by
   cases hh : Nat.blt i l with
   | true => exact (uq (by simpa using hh)).elim
   | false => rfl
  rw [hb]; exact LM _ agi
theorem yh (w : World) (o : Obj) : cy w (w.drew.alloc o) := (cy.drew w).trans (lQ w.drew o)
theorem HB (hT : di P T) (hc : Core μ h S w) (t tx e sz bytes : Nat) (zero : List PV) (d : TypeDesc) (gx : T.get t = .slice e sz bytes zero) (vD : P.underlying tx = some d) (hd : (∃ e', d = .slice e') ∨ d = .string)
  (s x : Operand) (hs : a.eval s = .slice none 0 0) (m : Nat) (g : Nat → List PV) (Bx : Src P μ h S w (a.eval x) sz m g) (hgo : ∀ (i j : Nat) (pv : PV), i < m → (g i)[j]? = some pv → dK pv = false) (hb : m * bytes ≤ 140737488355328) (hK : K (.own h.length 0 0 m) (h ++ [.row 0 sz m e g])) :
  gf P ⟨dst, .call ⟨.builtin .append, #[s, x], #[t, tx]⟩, ty, pos, after, guard⟩ a μ h S w K := by
 obtain ⟨hu, iQ, inf, zv, lU, p7, Sz, hz, PY, PZ, Oh⟩ := hT.slice _ _ _ _ _ gx
 have hbp := hT.bytes _ _ _ _ _ gx
 subst p7 Sz
 obtain ⟨hl, news, q1, q2, q3, q4⟩ := Bx
 rcases aeM m with h0 | h0
 ·subst h0
  have hn : news = #[] := aeY (by simpa using q1)
  subst hn
  obtain ⟨r1, r2⟩ := q4 w (cy.refl w)
  have hr := pP (P := P) (w := w) t tx ty e inf d hu vD hd lU none 0 0 (a.eval x) 0 #[] w r1 r2 (aeb _) rfl
  obtain ⟨lr, sG⟩ := rl (w1 := w) hc inf.size 0 e g none rfl (cy.refl w) hl hgo
  refine gf.jo (nU hs rfl hr) hK ?_ sG lr
  show bE _ _ _ _ _ _ _ _
  unfold bE
  rw [aeu (aeb _), aeU]
  refine ⟨⟨_, _, _, rfl⟩, aeb _, fun _ => ⟨by omega, ?_⟩⟩
  rw [bY]
 ·obtain ⟨r1, _⟩ := q4 w (cy.refl w)
  obtain ⟨_, r2⟩ := q4 w.drew (cy.drew w)
  have hr := sH (P := P) (w := w) t tx ty e inf zv d hu vD hd lU hz none 0 0 (a.eval x) m #[] news r1 rfl r2 agi hbp (by rw [No]; exact hb)
  rw [No] at hr
  obtain ⟨lr, sG⟩ := rl (w1 := w.drew.alloc (.cells (#[] ++ news ++ Builtin.zeroCells zv.cells (grownCap w m 0 e - m)) e)) hc inf.size m e g (some (w.heap.size, 0))
   ⟨aeb _, _, heap_alloc_new w.drew _, by simp [q1], fun i j pv hi hj => by
    obtain ⟨u, p1, p2⟩ := q2 i j pv hi hj
    have bP := (aed.1 p1).1
    exact ⟨u, by rw [Array.empty_append, No, aeL bP]; exact p1, p2.c⟩⟩ (yh w _) hl hgo
  refine gf.jo (nU hs rfl hr) hK ?_ sG lr
  show bE _ _ _ _ _ _ _ _
  unfold bE
  rw [aeu (aeb _), aeU]
  refine ⟨⟨_, _, _, rfl⟩, aeb _, fun _ => ⟨by omega, ?_⟩⟩
  rw [bY]
  have P0 := grownCap_ge w m 0 e
  refine ⟨_, grownCap w m 0 e, rfl, P0, fun _ => by simp, _, e, heap_alloc_new w.drew _, ?_⟩
  simp only [Array.size_append, tU, PY, q1]
  simp only [No]
  have : grownCap w m 0 e * inf.size = m * inf.size + (grownCap w m 0 e - m) * inf.size := by rw [← aex]; congr 1; omega
  simp
  omega
theorem JL (hT : di P T) (hc : Core μ h S w) (t tx e sz bytes : Nat) (zero : List PV) (d : TypeDesc) (gx : T.get t = .slice e sz bytes zero) (vD : P.underlying tx = some d) (hd : (∃ e', d = .slice e') ∨ d = .string)
  (s x : Operand) (id g off len n : Nat) (f : Nat → List PV) (hh : h[id]? = some (aj.row g sz n e f)) (hs : bG μ h S w (.own id g off len) (a.eval s)) (m : Nat) (q : Nat → List PV) (Bx : Src P μ h S w (a.eval x) sz m q) (Wh : ∀ (i j : Nat) (pv : PV), i < m → (q i)[j]? = some pv → dK pv = false)
  (hb : (len + m) * bytes ≤ 140737488355328)
  (hK : K (.own id (g + 1) 0 (len + m)) (h.set id (.row (g + 1) sz (len + m) e (fun i => bif Nat.blt i len then f (off + i) else q (i - len))))) :
  gf P ⟨dst, .call ⟨.builtin .append, #[s, x], #[t, tx]⟩, ty, pos, after, guard⟩ a μ h S w K := by
 obtain ⟨hu, iQ, inf, zv, lU, p7, Sz, hz, PY, PZ, Oh⟩ := hT.slice _ _ _ _ _ gx
 have hbp := hT.bytes _ _ _ _ _ gx
 subst p7 Sz
 have hid : id < h.length := (so.1 hh).1
 obtain ⟨Ed, zA, o1, o2, o3, o4⟩ := yf (P := P) hc id g off len inf.size n e f hh _ hs iQ
 obtain ⟨LM, news, q1, q2, q3, q4⟩ := Bx
 have SU := OV Ed LM
 have hjo : ∀ {sl : Nat}, off + sl ≤ n → ∀ (i j bV n' : Nat) (e' : TypeId) (f' : Nat → List PV) (F' : Nat → Prop), i < sl + m → (bif Nat.blt i sl then f (off + i) else q (i - sl))[j]? = some (.aY bV n' e' f' F') → off + i < n ∧ (f (off + i))[j]? = some (.aY bV n' e' f' F') := fun {sl} Qp i j bV n' e' f' F' hi hj => by
  by_cases uq : i < sl
  ·have hb : Nat.blt i sl = true := by simpa using uq
   rw [hb] at hj
   exact ⟨by omega, hj⟩
  ·have hb : Nat.blt i sl = false := by
    cases hh : Nat.blt i sl with
    | true => exact (uq (by simpa using hh)).elim
    | false => rfl
   rw [hb] at hj
   have := Wh (i - sl) j _ agi hj
   cases this
 have xK := hs.rX
 unfold bE at xK
 rw [hh] at xK
 obtain ⟨⟨sa, sl, sU, LP⟩, _, xK⟩ := xK
 obtain ⟨hle, xK⟩ := xK rfl
 have H2 : sl = len := by
  obtain ⟨e1, _⟩ := o4 w (cy.refl w)
  rw [LP] at e1
  simp [Builtin.lenOf] at e1
  exact e1
 subst H2
 obtain ⟨hl, bp⟩ := hc.heap id g _ n e f hh
 have Qn : ∀ b base, μ id = some (b, base) → ¬ rY w b := fun b base iH => by
  rw [iH] at xK
  obtain ⟨_, _, _, _, _, ig⟩ := xK
  exact ig.EU
 by_cases wR : sl + m ≤ sU
 ·-- in place
  obtain ⟨r1, r2⟩ := q4 w (cy.refl w)
  cases iH : μ id with
  | none =>
   rw [iH] at xK bp
   rw [LP] at xK
   injection xK with e1 e2 e3
   subst e1 e2 e3
   have hm : m = 0 := by omega
   subst hm
   have hn : news = #[] := aeY (by simpa using q1)
   subst hn
   have hr := pP (P := P) (w := w) t tx ty e inf d hu vD hd lU none 0 0 (a.eval x) 0 #[] w r1 r2 (aeb _) rfl
   obtain ⟨lr, sG⟩ := CK hc id g (g + 1) inf.size n e f (fun i => bif Nat.blt i 0 then f (off + i) else q (i - 0)) hh iH (Nat.lt_succ_self g)
   refine gf.jo (nU LP rfl hr) hK ?_ sG lr
   show bE _ _ _ _ _ _ _ _
   unfold bE
   rw [aff hid]
   refine ⟨⟨_, _, _, rfl⟩, aeb _, fun _ => ⟨by omega, ?_⟩⟩
   rw [iH]
  | some p =>
   obtain ⟨b, base⟩ := p
   rw [iH] at xK bp
   obtain ⟨ad, cap, hv, QX, wM, ig⟩ := xK
   rw [LP] at hv
   injection hv with e1 e2 e3
   subst e1 e3
   obtain ⟨cur, pJ, vC, kB⟩ := cp.cells ig bp
   have OW : base + (off + sU) * inf.size ≤ cur.size := by
    obtain ⟨Ju, e', p1, p2⟩ := ig
    rw [pJ] at p1
    injection p1 with p1
    injection p1 with p1 _ _
    subst p1
    exact p2
   rw [aex] at OW
   have key : ∃ p8 : Array Value, p8.size = cur.size ∧ (match (some ad : Option Addr) with | some a => (storeCells (a.add (sl * inf.size)) news.toList).run P w = .ok () (w.setRow b p8) | none => w.setRow b p8 = w) ∧
     ∀ k, p8[k]? = if base + off * inf.size + sl * inf.size ≤ k ∧ k < base + off * inf.size + sl * inf.size + m * inf.size then news[k - (base + off * inf.size + sl * inf.size)]? else cur[k]? := by
    rcases aeM m with h0 | h0
    ·subst h0
     have hn : news = #[] := aeY (by simpa using q1)
     subst hn
     refine ⟨cur, rfl, ?_, fun k => by rw [if_neg agi]⟩
     show (storeCells (ad.add (sl * inf.size)) []).run P w = .ok () (w.setRow b cur)
     rw [setRow_self w b cur e (0, 0) pJ]
     rfl
    ·have wM := wM agi
     subst wM
     have hmul : (sl + m) * inf.size ≤ sU * inf.size := aer _ wR
     rw [aex] at hmul
     have vZ := run_storeCells_at P b (base + off * inf.size + sl * inf.size) e news.toList 0 cur w pJ ago q3
     rw [aeT] at vZ
     refine ⟨(cur.toList.take (base + off * inf.size + sl * inf.size) ++ news.toList ++ cur.toList.drop (base + off * inf.size + sl * inf.size + news.toList.length)).toArray, ?_, ?_, fun k => ?_⟩
     ·simp; omega
     ·show (storeCells ((⟨b, base + off * inf.size, none⟩ : Addr).add (sl * inf.size)) news.toList).run P w = .ok () _
      rw [Addr.add_lit]
      exact vZ
     ·have Zw := vF cur.toList news.toList (base + off * inf.size + sl * inf.size) k ago
      rw [List.getElem?_toArray, Zw]
      simp only [aew, aeO, q1]
   obtain ⟨p8, c1, c2, c3⟩ := key
   have hr := pP (P := P) (w := w) t tx ty e inf d hu vD hd lU (some ad) sl sU (a.eval x) m news (w.setRow b p8) r1 r2 wR c2
   have hmul : (sl + m) * inf.size ≤ sU * inf.size := aer _ wR
   rw [aex] at hmul
   have pK := wP (w1 := w.setRow b p8) hc id g (g + 1) inf.size n (sl + m) e f (fun i => bif Nat.blt i sl then f (off + i) else q (i - sl)) hh b (base + off * inf.size) p8 agi (fun he => absurd he agi)
    (.inr ⟨base, cur, iH, pJ, c1.symm⟩) (setRow_heap w b cur _ e _ pJ) (by rw [c1, aex]; omega) (fun b' _ rZ => setRow_other w b b' _ rZ) agk rfl rfl rfl SU Qn
    (fun i j pv hi hj => by
     have Jn : j < inf.size := by rw [← SU i hi]; exact (so.1 hj).1
     rw [c3]
     by_cases uq : i < sl
     ·have hbl : Nat.blt i sl = true := by simpa using uq
      rw [hbl] at hj
      simp only [cond_true] at hj
      have p9 : (i + 1) * inf.size ≤ sl * inf.size := aer _ uq
      rw [aex] at p9
      rw [if_neg agi]
      obtain ⟨u, p1, p2⟩ := kB (off + i) j pv agi hj
      refine ⟨u, ?_, p2⟩
      rw [← p1]
      congr 1
      rw [aex]
      omega
     ·have hbl : Nat.blt i sl = false := by
       cases hh' : Nat.blt i sl with
       | true => exact (uq (by simpa using hh')).elim
       | false => rfl
      rw [hbl] at hj
      simp only [cond_false] at hj
      have e1 : i * inf.size = sl * inf.size + (i - sl) * inf.size := by rw [← aex]; congr 1; omega
      have e2 : (i - sl + 1) * inf.size ≤ m * inf.size := aer _ agi
      rw [aex] at e2
      rw [if_pos agi]
      obtain ⟨u, p1, p2⟩ := q2 (i - sl) j pv agi hj
      exact ⟨u, by rw [← p1]; congr 1; omega, p2⟩) off (hjo agi)
   obtain ⟨lr, sG⟩ := pK
   refine gf.jo (nU LP rfl hr) hK ?_ sG lr
   show bE _ _ _ _ _ _ _ _
   unfold bE
   rw [aff hid]
   refine ⟨⟨_, _, _, rfl⟩, aeb _, fun _ => ⟨by omega, ?_⟩⟩
   rw [bY]
   refine ⟨ad, sU, rfl, wR, fun hc0 => ?_, p8, e, setRow_heap w b cur _ e _ pJ, ?_⟩
   ·rw [wM hc0, Nat.zero_mul, aeT]
   ·rw [c1, No]; omega
 ·-- it grows
  obtain ⟨r1, _⟩ := q4 w (cy.refl w)
  obtain ⟨_, r2⟩ := q4 w.drew (cy.drew w)
  obtain ⟨_, s2⟩ := o4 w.drew (cy.drew w)
  rw [LP] at s2
  have hr := sH (P := P) (w := w) t tx ty e inf zv d hu vD hd lU hz sa sl sU (a.eval x) m zA news r1 s2 r2 agi hbp hb
  have P0 := grownCap_ge w (sl + m) sU e
  have pK := wP (w1 := w.drew.alloc (.cells (zA ++ news ++ Builtin.zeroCells zv.cells (grownCap w (sl + m) sU e - (sl + m))) e)) hc id g (g + 1) inf.size n (sl + m) e f (fun i => bif Nat.blt i sl then f (off + i) else q (i - sl)) hh
   w.heap.size 0 (zA ++ news ++ Builtin.zeroCells zv.cells (grownCap w (sl + m) sU e - (sl + m))) agi (fun he => absurd he agi) (.inl (aeb _)) (heap_alloc_new w.drew _)
   (by simp only [Array.size_append, o1, q1, aex]; omega) (fun b bP _ => heap_alloc_old w.drew _ bP) agk rfl rfl rfl SU Qn
   (fun i j pv hi hj => by
    rw [No]
    exact JK o1 q1 o2 q2 Ed LM i j pv hi hj) off (hjo agi)
  obtain ⟨lr, sG⟩ := pK
  refine gf.jo (nU LP rfl hr) hK ?_ sG lr
  show bE _ _ _ _ _ _ _ _
  unfold bE
  rw [aff hid]
  refine ⟨⟨_, _, _, rfl⟩, aeb _, fun _ => ⟨by omega, ?_⟩⟩
  rw [bY]
  refine ⟨_, grownCap w (sl + m) sU e, rfl, P0, fun _ => by simp, _, e, heap_alloc_new w.drew _, ?_⟩
  simp only [Array.size_append, tU, PY, o1, q1, No]
  have : grownCap w (sl + m) sU e * inf.size = (sl + m) * inf.size + (grownCap w (sl + m) sU e - (sl + m)) * inf.size := by rw [← aex]; congr 1; omega
  rw [aex] at this
  omega
theorem Ff (hT : di P T) (hc : Core μ h S w) (ht : ∀ t, bG μ h S w (env t) (a.tmps.getD t undef)) (args : Array Operand) (ts : Array TypeId) (hp : pop P T (.call ⟨.builtin .append, args, ts⟩) env h K) :
  gf P ⟨dst, .call ⟨.builtin .append, args, ts⟩, ty, pos, after, guard⟩ a μ h S w K := by
 obtain ⟨args⟩ := args
 obtain ⟨ts⟩ := ts
 simp only [pop] at hp
 split at hp
 ·rename_i s x t tx
  have hs := bQ ht s
  have hx := bQ ht x
  have main : ∀ (e sz bytes : Nat) (zero : List PV) (d : TypeDesc), T.get t = .slice e sz bytes zero → P.underlying tx = some d → ((∃ e', d = .slice e') ∨ d = .string) → qz e sz bytes (ev env s) (ev env x) h K →
    gf P ⟨dst, .call ⟨.builtin .append, #[s, x], #[t, tx]⟩, ty, pos, after, guard⟩ a μ h S w K := by
   intro e sz bytes zero d gx hxu hd hp
   have iQ := (hT.slice _ _ _ _ _ gx).2.1
   unfold qz at hp
   split at hp
   ·rename_i hes
    rw [hes] at hs
    obtain ⟨_, g, ⟨hb, m, f', rfl, zU, hK⟩, Bx, hgo⟩ := yg (P := P) hc _ _ hx sz iQ _ hp
    exact gf.rows (HB hT hc t tx e sz bytes zero d gx hxu hd s x hs.rj m g Bx hgo hb ⟨_, dO.snoc _ _ _ _ _ _ _ zU, hK⟩)
   ·rename_i id gen off len hes
    rw [hes] at hs
    split at hp
    ·rename_i g bV n e' f hg
     obtain ⟨rfl, hp⟩ := hp
     replace hp := bB hp
     obtain ⟨CE, hp⟩ := hp
     simp only [an] at CE
     obtain rfl := Is CE.1
     obtain rfl := Is CE.2
     obtain ⟨m, q, ⟨hb, n', f', rfl, zU, hK⟩, Bx, Wh⟩ := yg (P := P) hc _ _ hx sz iQ _ hp
     exact gf.rows (JL hT hc t tx e sz bytes zero d gx hxu hd s x id g off len n f (eW hg) hs m q Bx Wh hb ⟨_, dO.set _ _ _ _ _ _ _ _ zU, hK⟩)
    ·exact afL
   ·exact afL
  split at hp
  ·rename_i e sz bytes zero e' bV Wi aan gx VI
   exact main e sz bytes zero _ gx (hT.slice _ _ _ _ _ VI).1 (.inl ⟨_, rfl⟩) hp
  ·rename_i e sz bytes zero gx VI
   exact main e sz bytes zero _ gx (hT.str _ VI) (.inr rfl) hp
  ·exact afL
 ·exact afL
theorem bG.Rr {pv : PV} {v : Value} (hr : jm μ h S w pv v) : bG μ h S w pv v := by
 cases pv with
 | dG ps => exact (show False from hr).elim
 | _ => exact hr
theorem JM (hc : Core μ h S w) (ht : ∀ t, bG μ h S w (env t) (a.tmps.getD t undef)) (fo : Operand) (args : Array Operand) (ts : Array TypeId) (hp : pop P T (.call ⟨.value fo, args, ts⟩) env h K) :
  gf P ⟨dst, .call ⟨.value fo, args, ts⟩, ty, pos, after, guard⟩ a μ h S w K := by
 have Jm := bQ ht fo
 simp only [pop] at hp
 split at hp
 ·rename_i f hef
  rw [hef] at Jm
  replace hp := bB hp
  obtain ⟨SV, R, ⟨⟨fn, c, Qi, HC, w8⟩, hA⟩, hK⟩ := hp
  simp only [aei] at SV
  have HD := hA w (args.map a.eval) μ S hc.heap hc.ok agk (fun j pv hj => by
   rw [aet] at hj
   cases hx : args.toList[j]? with
   | none => rw [hx] at hj; cases hj
   | some x =>
    rw [hx] at hj
    injection hj with hj
    subst hj
    refine ⟨a.eval x, by rw [Array.getElem?_map]; simp only [aew] at hx; rw [hx]; rfl, ?_⟩
    have hv := bQ ht x
    have rZ := SV x (ael hx)
    cases he : ev env x with
    | dG ps => rw [he] at rZ; cases rZ
    | _ => rw [he] at hv; exact hv)
  intro next Q hn
  have lq : (execOp a.eval ⟨dst, .call ⟨.value fo, args, ts⟩, ty, pos, after, guard⟩).run P w = .ok (.enter f (args.map a.eval)) w := by
   simp only [execOp, resolve, Jm.Od, Deferred.ofValue, invoke, callFunc, Sem.run_bind, Sem.run_pure, Result.andThen_ok, Array.append_empty, Array.empty_append]
   have By : ¬ fn.name = "runtime.NumGoroutine" := by simpa using w8
   simp [program, Sem.run, Result.andThen, Qi, By, HC]
  unfold Oper.wp
  rw [lq]
  show Calls P f (args.map a.eval) w _
  refine HD.mono fun e w' ⟨v, res, h', μ', S', he, hR, hv, hH, hM, hF⟩ => ?_
  subst he
  exact hn res v h' μ' S' w' (hK res h' hR) hv ⟨hH, hM⟩ hF
 ·rename_i f bN hef
  rw [hef] at Jm
  replace hp := bB hp
  obtain ⟨SV, R, ⟨⟨fn, c, Qi, HC, w8⟩, hA⟩, hK⟩ := hp
  simp only [aei] at SV
  obtain ⟨vs, hvf, hvl, hvc⟩ := (show n9 μ h w f bN (a.eval fo) from Jm)
  have HD := hA w (args.map a.eval ++ vs) μ S hc.heap hc.ok (by simp [hvl]) (fun j pv hj => by
   by_cases bP : j < args.size
   ·rw [aeA (by simpa using bP), aet] at hj
    cases hx : args.toList[j]? with
    | none => rw [hx] at hj; cases hj
    | some x =>
     rw [hx] at hj
     injection hj with hj
     subst hj
     refine ⟨a.eval x, by rw [aeL (by simpa using bP), Array.getElem?_map]; simp only [aew] at hx; rw [hx]; rfl, ?_⟩
     have hv := bQ ht x
     have rZ := SV x (ael hx)
     cases he : ev env x with
     | dG ps => rw [he] at rZ; cases rZ
     | _ => rw [he] at hv; exact hv
   ·rw [aeu (by simpa using Nat.le_of_not_lt bP), aet] at hj
    simp only [List.length_map, aeO] at hj
    cases hx : bN[j - args.size]? with
    | none => rw [hx] at hj; cases hj
    | some p =>
     rw [hx] at hj
     injection hj with hj
     subst hj
     obtain ⟨u, q1, q2⟩ := hvc _ p hx
     exact ⟨u, by rw [Array.getElem?_append_right (by simpa using Nat.le_of_not_lt bP)]; simpa using q1, q2⟩)
  intro next Q hn
  have lq : (execOp a.eval ⟨dst, .call ⟨.value fo, args, ts⟩, ty, pos, after, guard⟩).run P w = .ok (.enter f (args.map a.eval ++ vs)) w := by
   simp only [execOp, resolve, hvf, Deferred.ofValue, invoke, callFunc, Sem.run_bind, Sem.run_pure, Result.andThen_ok, Array.empty_append]
   have By : ¬ fn.name = "runtime.NumGoroutine" := by simpa using w8
   simp [program, Sem.run, Result.andThen, Qi, By, HC]
  unfold Oper.wp
  rw [lq]
  show Calls P f (args.map a.eval ++ vs) w _
  refine HD.mono fun e w' ⟨v, res, h', μ', S', he, hR, hv, hH, hM, hF⟩ => ?_
  subst he
  exact hn res v h' μ' S' w' (hK res h' hR) hv ⟨hH, hM⟩ hF
 ·exact afL
theorem xd : ∀ (z xs ys : List PV) (b : Bool), C8 z xs ys = some b → b = true → ∀ (j : Nat) (p q : PV), xs[j]? = some p → ys[j]? = some q → p = q ∧ ((∃ k n, p = .int k n) ∨ (∃ b, p = .bool b) ∨ ∃ s, p = .str s)
 | z, xs, ys, b, hk, hb, j, p, q, hp, hq => by
  subst hb
  unfold C8 at hk
  split at hk
  ·simp at hp
  ·obtain ⟨hg, c, hc, e⟩ := ck hk
   simp only [an] at hg
   obtain rfl := eE hg.1
   obtain rfl := eE hg.2
   have e := e.symm
   simp only [an, beq_iff_eq] at e
   obtain ⟨rfl, rfl⟩ := e
   cases j with
   | zero => simp at hp hq; subst hp; subst hq; exact ⟨rfl, .inl ⟨_, _, rfl⟩⟩
   | succ j => exact xd _ _ _ _ hc rfl j p q agF (by simpa using hq)
  ·obtain ⟨hg, c, hc, e⟩ := ck hk
   have e := e.symm
   simp only [an, beq_iff_eq] at e
   obtain ⟨rfl, rfl⟩ := e
   cases j with
   | zero => simp at hp hq; subst hp; subst hq; exact ⟨rfl, .inr (.inl ⟨_, rfl⟩)⟩
   | succ j => exact xd _ _ _ _ hc rfl j p q agF (by simpa using hq)
  ·obtain ⟨hg, c, hc, e⟩ := ck hk
   have e := e.symm
   simp only [an, beq_iff_eq] at e
   obtain ⟨rfl, rfl⟩ := e
   cases j with
   | zero => simp at hp hq; subst hp; subst hq; exact ⟨rfl, .inr (.inr ⟨_, rfl⟩)⟩
   | succ j => exact xd _ _ _ _ hc rfl j p q agF (by simpa using hq)
  ·cases hk
theorem xe : ∀ (z xs ys : List PV) (b : Bool), C8 z xs ys = some b → ys.length = xs.length
 | z, xs, ys, b, hk => by
  unfold C8 at hk
  split at hk
  ·rfl
  ·obtain ⟨_, c, hc, _⟩ := ck hk
   simp [xe _ _ _ c hc]
  ·obtain ⟨_, c, hc, _⟩ := ck hk
   simp [xe _ _ _ c hc]
  ·obtain ⟨_, c, hc, _⟩ := ck hk
   simp [xe _ _ _ c hc]
  ·cases hk
theorem JN (s : List UInt8) : ((ByteArray.mk ⟨s⟩) == (ByteArray.mk ⟨s⟩)) = true := by
 show ((Array.mk s) == (Array.mk s)) = true
 simp
theorem yi (n : Nat) {p : PV} {u v : Value} (hp : (∃ k n, p = .int k n) ∨ (∃ b, p = .bool b) ∨ ∃ s, p = .str s) (hu : sB p u) (hv : bR μ h S w p v) : Instr.sameBits n u v = true := by
 rcases hp with ⟨k, m, rfl⟩ | ⟨b, rfl⟩ | ⟨s, rfl⟩
 ·have hu : u = _ := hu
  have hv : aT S w (.int k m) v := hv
  cases hv; subst hu
  cases n <;> simp [Instr.sameBits]
 ·have hu : u = _ := hu
  have hv : aT S w (.bool b) v := hv
  cases hv; subst hu
  cases n <;> simp [Instr.sameBits]
 ·have hu : u = _ := hu
  have hv : aT S w (.str s) v := hv
  cases hv; subst hu
  cases n <;> simp [Instr.sameBits, JN]
theorem OX {ti : TI} {kv kp : PV} {key ek : Value} (PU : bG μ h S w kv key) (hs : qN kp ek) (hq : ky ti kv kp = some true) : Instr.sameBits 10000 ek key = true := by
 unfold ky at hq
 split at hq
 ·obtain ⟨hg, c, hc, e⟩ := ck hq
  simp only [an] at hg
  obtain rfl := eE hg.1
  obtain rfl := eE hg.2
  have e := e.symm
  simp only [an, beq_iff_eq] at e
  obtain ⟨rfl, _⟩ := e
  exact yi (μ := μ) (h := h) (S := S) (w := w) 10000 (.inl ⟨_, _, rfl⟩) hs PU
 ·have hq := aeq hq
  rw [beq_iff_eq] at hq
  subst hq
  exact yi (μ := μ) (h := h) (S := S) (w := w) 10000 (.inr (.inr ⟨_, rfl⟩)) hs PU
 ·split at hq
  ·rename_i z xs ys _ _
   obtain ⟨PT, rfl, x1, x2⟩ := (show jm μ h S w (.agg xs) key from PU)
   obtain ⟨vys, rfl, y1, y2⟩ := (show ∃ vs : Array Value, ek = .agg vs ∧ vs.size = ys.length ∧ ∀ (j : Nat) (pv : PV), ys[j]? = some pv → ∃ u : Value, vs[j]? = some u ∧ sB pv u from hs)
   have hl := xe _ _ _ _ hq
   rw [show 10000 = 9999 + 1 from rfl, Instr.sameBits]
   rw [an]
   refine ⟨by rw [beq_iff_eq, x1, y1, hl], aei.2 (fun p hp => ?_)⟩
   obtain ⟨j, hj, rfl⟩ := aeP.1 hp
   have Ha := hj
   rw [List.length_zip, aeO, aeO] at Ha
   have hjx : j < xs.length := by omega
   have hjy : j < ys.length := by omega
   obtain ⟨e1, e2⟩ := xd _ _ _ _ hq rfl j _ _ (As hjx) (As hjy)
   obtain ⟨u, hu, FC⟩ := y2 j _ (As hjy)
   obtain ⟨v, hv, jT⟩ := x2 j _ (As hjx)
   rw [← e1] at FC
   have := yi 9999 e2 FC jT
   rw [List.getElem_zip]
   simp only [Array.getElem_toList]
   have h1 : vys[j]'agi = u := by rw [aev agi] at hu; exact aeq hu
   have h2 : PT[j]'agi = v := by rw [aev agi] at hv; exact aeq hv
   rw [h1, h2]
   exact this
  ·cases hq
 ·cases hq
theorem OY {w1 : World} (hc : Core μ h S w) (id g sz n n1 : Nat) (e : TypeId) (f f1 : Nat → List PV) (hh : h[id]? = some (aj.row g sz n e f)) (b base : Nat) (es : Array MapEntry) (c : Nat) (iH : μ id = some (b, base))
  (hb : w.heap[b]? = some (.map es c)) (OZ : Array MapEntry) (c1 : Nat) (hw : w1.heap[b]? = some (.map OZ c1)) (j6 : ∀ b', b' ≠ b → w1.heap[b']? = w.heap[b']?) (Bh : w1.heap.size = w.heap.size) (hos : w1.os = w.os)
  (Oj : w1.tape = w.tape) (Ol : w1.output = w.output) (hl : ∀ i, i < n1 → (f1 i).length = sz)
  (hr : OZ.size = n1 ∧ ∀ i, i < n1 → ∃ (kp vp : PV) (en : MapEntry), f1 i = [kp, vp] ∧ j4 kp = true ∧ j4 vp = true ∧ OZ[i]? = some en ∧ qN kp en.key ∧ qN vp en.val) :
  Fr μ h S w μ (h.set id (.row (g + 1) sz n1 e f1)) S w1 ∧ Core μ (h.set id (.row (g + 1) sz n1 e f1)) S w1 := by
 have hid : id < h.length := (so.1 hh).1
 have jE : (h.set id (aj.row (g + 1) sz n1 e f1))[id]? = some (aj.row (g + 1) sz n1 e f1) := by simp [hid]
 have cQ : ∀ j, j ≠ id → (h.set id (aj.row (g + 1) sz n1 e f1))[j]? = h[j]? := fun j hj => by rw [aeJ (Ne.symm hj)]
 have W8 : B5 μ h b := ⟨id, g, sz, n, e, f, base, hh, iH⟩
 have Bj : cz μ h b := .inl W8
 have zB : ∀ b', B5 μ (h.set id (aj.row (g + 1) sz n1 e f1)) b' → B5 μ h b' := fun b' nO => by
  obtain ⟨j, gj, pI, nj, ej, fj, sF, hj, hm⟩ := nO
  by_cases iN : j = id
  ·subst iN; exact ⟨j, g, sz, n, e, f, sF, hh, hm⟩
  ·rw [cQ j iN] at hj; exact ⟨j, gj, pI, nj, ej, fj, sF, hj, hm⟩
 have qa : ∀ j x y b, dL (h.set id (aj.row (g + 1) sz n1 e f1)) j x y b → dL h j x y b := fun j x y b ⟨gj, pI, nj, ej, fj, bV, n', e', f', F', q1, q2, q3, q4⟩ => by
  by_cases iN : j = id
  ·subst iN
   rw [jE] at q1
   injection q1 with q1
   injection q1 with e1 e2 e3 e4 e5
   subst e3 e5
   obtain ⟨kp, vp, en, r1, r2, r3, _⟩ := hr.2 x q2
   rw [r1] at q3
   match y, q3 with
   | 0, q3 => simp at q3; rw [q3] at r2; cases r2
   | 1, q3 => simp at q3; rw [q3] at r3; cases r3
   | y + 2, q3 => simp at q3
  ·rw [cQ j iN] at q1
   exact ⟨_, _, _, _, _, _, _, _, _, _, q1, q2, q3, q4⟩
 have mL : ∀ b', cz μ (h.set id (aj.row (g + 1) sz n1 e f1)) b' → cz μ h b' := fun b' nO => by
  rcases nO with nO | ⟨x, y, z, nO⟩
  ·exact .inl (zB _ nO)
  ·exact .inr ⟨x, y, z, qa _ _ _ _ nO⟩
 have Bi : ∀ j x y b', dL h j x y b' → w1.heap[b']? = w.heap[b']? := fun j x y b' hx => j6 b' (by
  rintro rfl
  exact hc.ok.hv b' W8 j x y hx)
 have lr : Fr μ h S w μ (h.set id (.row (g + 1) sz n1 e f1)) S w1 := by
  refine ⟨by simp, fun b' _ wq => j6 b' (fun he => wq (he ▸ Bj)), fun _ hb => hb, fun _ hb => .inl hb, fun b' nO => .inl (mL b' nO), by omega, hos, Oj, Ol, fun j gj pI nj ej fj hj => ?_, fun j hj => ?_, fun b' k _ ig => ?_, fun j gj pI nj ej fj b' rk hj hm nX => ?_, fun b' j x y hx nX => let ⟨es2, c2, q⟩ := nX; ⟨es2, c2, (Bi j x y b' hx).trans q⟩⟩
  ·by_cases iN : j = id
   ·subst iN
    rw [hh] at hj
    injection hj with hj
    injection hj with e1 e2 e3 e4 e5
    subst e1 e2 e3 e4 e5
    rw [jE]
    exact ⟨by omega, fun he => absurd he agi⟩
   ·rw [cQ j iN, hj]
    exact agf
  ·have iN : j ≠ id := by rintro rfl; rw [hh] at hj; cases hj
   rw [cQ j iN]; exact hj
  ·have rZ : b' ≠ b := by
    rintro rfl
    exact ig.EU ⟨es, c, hb⟩
   exact kA.of_same (j6 b' rZ) ig
  ·have hex : ∃ g' bV n' e' f', (h.set id (aj.row (g + 1) sz n1 e f1))[j]? = some (aj.row g' bV n' e' f') := by
    by_cases iN : j = id
    ·subst iN; exact ⟨_, _, _, _, _, jE⟩
    ·exact ⟨_, _, _, _, _, (cQ j iN).trans hj⟩
   refine ⟨?_, .inr ⟨hex, hm⟩⟩
   by_cases Kx : b' = b
   ·subst Kx; exact ⟨OZ, c1, hw⟩
   ·obtain ⟨es2, c2, q⟩ := nX
    exact ⟨es2, c2, (j6 b' Kx).trans q⟩
 refine ⟨lr, ⟨fun j gj pI nj ej fj hj => ?_, ⟨fun b hb => hc.ok.apart b (mL b hb), fun b hb => by rw [Bh]; exact hc.ok.lt b (mL b hb), fun b hb => by rw [Bh]; exact hc.ok.slt b hb, ?_, hc.ok.Bk lr, fun b hb x y z hx => hc.ok.hv b (zB b hb) x y z (qa _ _ _ _ hx), fun b _ _ _ _ _ _ hx hy => hc.ok.hh b _ _ _ _ _ _ (qa _ _ _ _ hx) (qa _ _ _ _ hy)⟩⟩⟩
 ·by_cases iN : j = id
  ·subst iN
   rw [jE] at hj
   injection hj with hj
   injection hj with e1 e2 e3 e4 e5
   subst e1 e2 e3 e4 e5
   refine ⟨hl, ?_⟩
   rw [iH]
   exact ⟨_, hw, hr⟩
  ·rw [cQ j iN] at hj
   obtain ⟨h1, h2⟩ := hc.heap j gj pI nj ej fj hj
   refine ⟨h1, ?_⟩
   cases hm : μ j with
   | none => rw [hm] at h2; exact h2
   | some p =>
    obtain ⟨b', rk⟩ := p
    rw [hm] at h2
    obtain ⟨o, q1, q2⟩ := h2
    have Kx : b' ≠ b := by
     rintro rfl
     exact iN (hc.ok.inj j id _ _ _ _ _ _ _ _ _ _ _ _ _ hj hh hm iH)
    exact ⟨o, (j6 b' Kx).trans q1, q2.mono (fun i y pv v hi hy hr => hr.fr lr hc.ok (fun bV n' e' f' F' he b2 jr => Bi j i y b2 ⟨_, _, _, _, _, _, _, _, _, _, hj, hi, he ▸ hy, jr⟩))⟩
 ·intro i j gi P1 ni ei fi gj pI nj ej fj b' o o' hi hj p9 oH
  have back : ∀ k gk W9 nk ek fk, (h.set id (aj.row (g + 1) sz n1 e f1))[k]? = some (aj.row gk W9 nk ek fk) → ∃ g' bV n' e' f', h[k]? = some (aj.row g' bV n' e' f') := fun k gk W9 nk ek fk hk => by
   by_cases xZ : k = id
   ·subst xZ; exact ⟨_, _, _, _, _, hh⟩
   ·rw [cQ k xZ] at hk; exact ⟨_, _, _, _, _, hk⟩
  obtain ⟨_, _, _, _, _, h1⟩ := back _ _ _ _ _ _ hi
  obtain ⟨_, _, _, _, _, h2⟩ := back _ _ _ _ _ _ hj
  exact hc.ok.inj i j _ _ _ _ _ _ _ _ _ _ _ _ _ h1 h2 p9 oH
theorem LQ {w1 : World} (hc : Core μ h S w) (ha : cy w w1) (b : Nat) (hb : w.heap.size ≤ b) (de : b < w1.heap.size) : Fr μ h S w μ h (fun x => S x ∨ x = b) w1 ∧ Core μ h (fun x => S x ∨ x = b) w1 := by
 have lr : Fr μ h S w μ h (fun x => S x ∨ x = b) w1 := by
  refine ⟨aeb _, fun b' nO _ => ha.blocks b' nO, fun _ hs => .inl hs, fun b' nO => ?_, fun _ ho => .inl ho, ha.size, ha.os, ha.tape, ha.output, fun j gj pI nj ej fj hj => ?_, fun _ hd => hd, fun b' k ho ig => ?_, fun j gj pI nj ej fj b' rk hj hm nX => ?_, fun b' j x y hx nX => let ⟨es2, c2, q⟩ := nX; ⟨es2, c2, (ha.blocks b' (hc.ok.lt b' (.inr ⟨j, x, y, hx⟩))).trans q⟩⟩
  ·rcases nO with nO | rfl
   ·exact .inl nO
   ·exact .inr (.inr hb)
  ·rw [hj]; exact ⟨aeb _, fun _ => ⟨rfl, rfl, rfl, rfl⟩⟩
  ·exact kA.of_same (ha.blocks b' (hc.ok.lt b' ho)) ig
  ·obtain ⟨es, c, q⟩ := nX
   exact ⟨⟨es, c, (ha.blocks b' (hc.ok.lt b' (.inl ⟨_, _, _, _, _, _, _, hj, hm⟩))).trans q⟩, .inr ⟨⟨_, _, _, _, _, hj⟩, hm⟩⟩
 refine ⟨lr, ⟨fun j gj pI nj ej fj hj => ?_, ⟨fun b' ho hs => ?_, fun b' ho => aez (hc.ok.lt b' ho) ha.size, fun b' hs => ?_, hc.ok.inj, hc.ok.Bk lr, hc.ok.hv, hc.ok.hh⟩⟩⟩
 ·obtain ⟨h1, h2⟩ := hc.heap j gj pI nj ej fj hj
  refine ⟨h1, ?_⟩
  cases hm : μ j with
  | none => rw [hm] at h2; exact h2
  | some p =>
   obtain ⟨b', rk⟩ := p
   rw [hm] at h2
   obtain ⟨o, q1, q2⟩ := h2
   exact ⟨o, (ha.blocks b' (hc.ok.lt b' (.inl ⟨_, _, _, _, _, _, _, hj, hm⟩))).trans q1, q2.mono (fun i y pv v hi hy hr => hr.fr lr hc.ok (fun bV n' e' f' F' he b2 jr => ha.blocks b2 (hc.ok.lt b2 (.inr ⟨j, i, y, _, _, _, _, _, _, _, _, _, _, hj, hi, he ▸ hy, jr⟩))))⟩
 ·rcases hs with hs | rfl
  ·exact hc.ok.apart b' ho hs
  ·exact absurd (hc.ok.lt b' ho) agi
 ·rcases hs with hs | rfl
  ·exact aez (hc.ok.slt b' hs) ha.size
  ·exact de
theorem Bz (hT : di P T) (hc : Core μ h S w) (ht : ∀ t, bG μ h S w (env t) (a.tmps.getD t undef)) (s d : Nat) (x : Operand) (hp : pop P T (.convert s d x) env h K) : gf P ⟨dst, .convert s d x, ty, pos, after, guard⟩ a μ h S w K := by
 simp only [pop] at hp
 split at hp
 ·rename_i e sz Oc z b hs hd hx
  split at hp
  ·rename_i he
   obtain ⟨f', zU, hK⟩ := hp
   have hv := bQ ht x
   rw [hx] at hv
   have lq := Lib.run_convert_string_bytes (P := P) w s d e ⟨⟨b⟩⟩ (hT.str _ hs) (hT.slice _ _ _ _ _ hd).1 (hT.int _ _ he)
   have hag : cy w (Lib.bytesWorld w e ⟨⟨b⟩⟩) := by
    have := Lib.bytesWorld_below w e ⟨⟨b⟩⟩
    exact ⟨this.block, this.size, this.os, this.tape, this.output⟩
   obtain ⟨lr, sG⟩ := LQ hc hag w.heap.size (aeb _) (by rw [Lib.bytesWorld_size]; omega)
   refine gf.jo (val := .slice (some ⟨w.heap.size, 0, none⟩) b.length (grownCap w b.length 0 e)) (c8 rfl ?_) hK ?_ sG lr
   ·rw [hv.mE]
    exact lq
   ·show aT _ _ (.fM 1 b.length f') _
    refine .fM 1 b.length f' w.heap.size 0 _ (fun i _ => .int .u8 (b.getD i 0).toNat) (.inr rfl) (fun i hi => by rw [zU i hi]; rfl) ?_ (fun i j pv hi hj => ?_) (fun i j pv hi hj => ?_)
    ·have := grownCap_ge w b.length 0 e; omega
    ·rw [zU i hi] at hj
     have sd : j = 0 := by
      have := (so.1 hj).1
      simpa using this
     subst sd
     have := Lib.bytesWorld_cell w e ⟨⟨b⟩⟩ i (by show i < b.length; exact hi)
     rw [show 0 + i * 1 + 0 = i by omega]
     exact this
    ·rw [zU i hi] at hj
     have sd : j = 0 := by
      have := (so.1 hj).1
      simpa using this
     subst sd
     simp at hj
     subst hj
     exact .int _ _
  ·exact afL
 ·exact .rm hc (mY hT hc.heap ht hp)
theorem CL (hT : di P T) (hc : Core μ h S w) (t : Nat) (hp : pop P T (.makeMap t none) env h K) : gf P ⟨dst, .makeMap t none, ty, pos, after, guard⟩ a μ h S w K := by
 simp only [pop] at hp
 split at hp
 ·rename_i kt et zv gx
  obtain ⟨f', hK⟩ := hp
  obtain ⟨lr, sG⟩ := De (w1 := w.alloc (.map #[] 0)) hc 2 0 t f' (some (w.heap.size, 0)) ⟨aeb _, _, heap_alloc_new w _, rfl, fun i hi => absurd hi (aeB _)⟩ (lQ w _) (fun i hi => absurd hi (aeB _)) (fun i j pv hi => absurd hi (aeB _))
  refine gf.jo (val := .map (some w.heap.size)) (c8 rfl rfl) hK ?_ sG lr
  show fX _ _ _ _ _
  unfold fX
  rw [aeu (aeb _), aeU]
  exact ⟨⟨_, rfl⟩, w.heap.size, 0, bY _ _ _, ⟨_, _, heap_alloc_new w _⟩, rfl⟩
 ·exact afL
theorem xf : ∀ (z xs ys : List PV) (b : Bool), C8 z xs ys = some b → xs.all tL = true ∧ xs.all lP = true
 | z, xs, ys, b, hk => by
  unfold C8 at hk
  split at hk
  ·exact ⟨rfl, rfl⟩
  ·obtain ⟨_, c, hc, _⟩ := ck hk
   obtain ⟨h1, h2⟩ := xf _ _ _ c hc
   simp [tL, lP, h1, h2]
  ·obtain ⟨_, c, hc, _⟩ := ck hk
   obtain ⟨h1, h2⟩ := xf _ _ _ c hc
   simp [tL, lP, h1, h2]
  ·obtain ⟨_, c, hc, _⟩ := ck hk
   obtain ⟨h1, h2⟩ := xf _ _ _ c hc
   simp [tL, lP, h1, h2]
  ·cases hk
theorem O0 {ti : TI} {kv kp : PV} {q : Bool} (h0 : ky ti kv kp = some q) : j4 kv = true ∧ storable kv = true := by
 unfold ky at h0
 split at h0
 ·exact ⟨rfl, rfl⟩
 ·exact ⟨rfl, rfl⟩
 ·split at h0
  ·exact xf _ _ _ _ h0
  ·cases h0
 ·cases h0
theorem xg {pv : PV} {v : Value} (hs : tL pv = true) (hj : lP pv = true) (hv : bR μ h S w pv v) : sB pv v := by
 cases pv with
 | int k n => have hv : aT S w (.int k n) v := hv; cases hv; rfl
 | bool b => have hv : aT S w (.bool b) v := hv; cases hv; rfl
 | str s => have hv : aT S w (.str s) v := hv; cases hv; rfl
 | jc => cases hj
 | _ => cases hs
theorem KL {pv : PV} {v : Value} (hs : j4 pv = true) (hj : storable pv = true) (hv : bG μ h S w pv v) : qN pv v := by
 cases pv with
 | agg cs =>
  obtain ⟨vs, rfl, h1, h2⟩ := (show jm μ h S w (.agg cs) v from hv)
  refine ⟨vs, rfl, h1, fun j pv Ha => ?_⟩
  obtain ⟨u, q1, q2⟩ := h2 j pv Ha
  have hm := ael Ha
  exact ⟨u, q1, xg (aei.1 hs pv hm) (aei.1 hj pv hm) q2⟩
 | int k n => exact xg (μ := μ) (h := h) (S := S) (w := w) (pv := .int k n) hs hj hv
 | bool b => exact xg (μ := μ) (h := h) (S := S) (w := w) (pv := .bool b) hs hj hv
 | str s => exact xg (μ := μ) (h := h) (S := S) (w := w) (pv := .str s) hs hj hv
 | jc => cases hj
 | _ => cases hs
theorem Fg {B1 new : Value} {w' : World} (h1 : Instr.sameBits 10000 B1 new = true) : (Instr.keyThatStays B1 new).run P w' = .ok new w' := by
 simp [Instr.keyThatStays, h1]
theorem LR {w : World} {b : Nat} {o o' : Obj} (hb : w.heap[b]? = some o) : ({ w with heap := w.heap.setIfInBounds b o' } : World).heap[b]? = some o' := by
 have := (aed.1 hb).1
 simp [this]
theorem JO {w : World} {b b' : Nat} {o' : Obj} (hb : b' ≠ b) : ({ w with heap := w.heap.setIfInBounds b o' } : World).heap[b']? = w.heap[b']? := by
 simp [Array.getElem?_setIfInBounds, Ne.symm hb]
theorem zC (hT : di P T) (hc : Core μ h S w) (ht : ∀ t, bG μ h S w (env t) (a.tmps.getD t undef)) (t : Nat) (m k x : Operand) (hp : pop P T (.mapUpdate t m k x) env h K) :
  gf P ⟨dst, .mapUpdate t m k x, ty, pos, after, guard⟩ a μ h S w K := by
 have hm := bQ ht m
 have hk := bQ ht k
 have hx := bQ ht x
 simp only [pop] at hp
 split at hp
 ·rename_i kt et zv id gx hem
  rw [hem] at hm
  split at hp
  ·rename_i g sz n e f C9
   replace hp := bB (bX (bX hp))
   obtain ⟨qq, n', f', hup, hK⟩ := hp
   simp only [an] at qq
   obtain ⟨⟨⟨hkk, Sx⟩, adG⟩, adH⟩ := qq
   obtain rfl := (Is adH)
   obtain ⟨hu, inf, z, lU, hz, iQ, Sy, vZ⟩ := hT.map _ _ _ _ gx
   have hh := eW C9
   obtain ⟨bl, base, es, c, iH, ex, hb, hn, Jt⟩ := A5 hc.heap hh hm.ES
   obtain ⟨q0, h0⟩ := Option.isSome_iff_exists.1 hkk
   obtain ⟨d, s, hd, K1, Oi⟩ := Kv hT hk h0
   obtain ⟨Mj, adI⟩ := O0 h0
   have hkr := KL Mj adI hk
   have hvr := KL Sx adG hx
   have wO : ∀ m, m ≤ n → Dc (T.get kt) f m (ev env k) → ∀ j, j < m → ∀ y : MapEntry, es.toList[j]? = some y → tK P kt d s (a.eval k) y.key false := fun m hmn hM j hj y hy => by
    obtain ⟨kp, vp, h1, h2⟩ := hM j hj
    obtain ⟨W6, W7, en, h3, _, _, h4, h5, _⟩ := Jt j agi
    rw [h1] at h3
    injection h3 with e1 e2
    subst e1
    have : y = en := by rw [aew] at hy; exact aeq (hy.symm.trans h4)
    subst this
    exact Oi kp y.key false h5 h2
   have main : ∀ (OZ : Array MapEntry) (c1 : Nat), (Instr.mapUpdate t (.map (some bl)) (a.eval k) (a.eval x)).run P w = .ok () { w with heap := w.heap.setIfInBounds bl (.map OZ c1) } →
     (OZ.size = n' ∧ ∀ i, i < n' → ∃ (kp vp : PV) (en : MapEntry), f' i = [kp, vp] ∧ j4 kp = true ∧ j4 vp = true ∧ OZ[i]? = some en ∧ qN kp en.key ∧ qN vp en.val) →
     gf P ⟨dst, .mapUpdate t m k x, ty, pos, after, guard⟩ a μ h S w K := by
    intro OZ c1 lq hr
    obtain ⟨lr, sG⟩ := OY (w1 := { w with heap := w.heap.setIfInBounds bl (.map OZ c1) }) hc id g 2 n n' e f f' hh bl base es c iH hb OZ c1 (LR hb) (fun b' nO => JO nO) agk rfl rfl rfl
     (fun i hi => by obtain ⟨kp, vp, en, h1, _⟩ := hr.2 i hi; rw [h1]; rfl) hr
    refine gf.Ky ?_ hK sG lr
    have e1 : (execOp a.eval ⟨dst, .mapUpdate t m k x, ty, pos, after, guard⟩) = (do Instr.mapUpdate t (a.eval m) (a.eval k) (a.eval x); pure .skip : Sem Next) := rfl
    rw [e1, ex]
    simp only [Sem.run_bind, lq, Result.andThen, Sem.run_pure]
   rcases hup with ⟨i0, r, ⟨hi0, hM, kp0, QZ, hq0⟩, hn1, xL, Kb⟩ | ⟨hM, hn1, xL, Kb⟩
   ·obtain ⟨W6, W7, en, h3, h8, h6, h4, h5, h7⟩ := Jt i0 hi0
    rw [QZ] at h3
    injection h3 with e1 e2
    injection e2 with e2 _
    subst e1 e2
    have Be := A8 (P := P) (w' := w) hd es.toList i0 en (wO i0 agi hM) (by rw [aew]; exact h4) (Oi kp0 en.key true h5 hq0)
    have aao := Fg (P := P) (w' := w) (OX hk h5 hq0)
    refine main (es.modify i0 fun e => { e with key := a.eval k, val := a.eval x }) c ?_ ⟨by simp [hn, hn1], fun i hi => ?_⟩
    ·simp [Instr.mapUpdate, run_underlying hu, run_getObj_map w bl es c hb, K1, Be, h4, aao, MapKept.run_setObj_map _ hb]
    ·by_cases Mf : i = i0
     ·subst Mf
      refine ⟨_, _, { en with key := a.eval k, val := a.eval x }, xL, Mj, Sx, ?_, hkr, hvr⟩
      rw [Array.getElem?_modify, if_pos rfl, h4]
      rfl
     ·obtain ⟨kp1, vp1, en1, g1, g2, g3, g4, g5, g6⟩ := Jt i agi
      refine ⟨kp1, vp1, en1, by rw [Kb i agi Mf, g1], g2, g3, ?_, g5, g6⟩
      rw [Array.getElem?_modify, if_neg (Ne.symm Mf), g4]
   ·have Be := wK (P := P) (w' := w) hd es.toList (fun j y hy => wO n (aeb _) hM j (by
      have := (so.1 hy).1
      rw [← hn]; simpa using this) y hy)
    refine main (es.push { key := a.eval k, val := a.eval x, born := c }) (c + 1) ?_ ⟨by simp [hn, hn1], fun i hi => ?_⟩
    ·simp [Instr.mapUpdate, run_underlying hu, run_getObj_map w bl es c hb, K1, Be, MapKept.run_setObj_map _ hb]
    ·by_cases Mf : i = n
     ·subst Mf
      refine ⟨_, _, { key := a.eval k, val := a.eval x, born := c }, xL, Mj, Sx, ?_, hkr, hvr⟩
      rw [← hn]
      simp
     ·obtain ⟨kp1, vp1, en1, g1, g2, g3, g4, g5, g6⟩ := Jt i agi
      refine ⟨kp1, vp1, en1, by rw [Kb i agi, g1], g2, g3, ?_, g5, g6⟩
      rw [Array.getElem?_push, if_neg agi, g4]
  ·exact afL
 ·exact afL
theorem Fh (hT : di P T) (hc : Core μ h S w) (ht : ∀ t, bG μ h S w (env t) (a.tmps.getD t undef)) (bo : BinOp) (t t' : TypeId) (x y : Operand) (hp : pop P T (.binOp bo t x y t') env h K) :
  gf P ⟨dst, .binOp bo t x y t', ty, pos, after, guard⟩ a μ h S w K := by
 simp only [pop] at hp
 split at hp
 ·rename_i e sz Oc z bV n f gx hx hy
  obtain ⟨h1, h2⟩ := hp
  have rx := bQ ht x
  have ry := bQ ht y
  rw [hx] at rx
  rw [hy] at ry
  have rx : aT S w (.fM bV n f) (a.eval x) := rx
  have ry : aT S w .aO (a.eval y) := ry
  have ey : a.eval y = .slice none 0 0 := by
   generalize a.eval y = v at ry
   cases ry
   rfl
  obtain ⟨ad, c, ex, hn⟩ : ∃ ad c, a.eval x = .slice ad n c ∧ (ad = none → n = 0) := by
   generalize a.eval x = v at rx
   cases rx with
   | p6 _ _ ad c => exact ⟨ad, c, rfl, fun _ => rfl⟩
   | fM _ _ _ b off c vf _ _ _ _ _ => exact ⟨_, c, rfl, fun h0 => by cases h0⟩
  obtain ⟨hu, _⟩ := hT.slice _ _ _ _ _ gx
  have hg : eqGuard .eql t x y (a.eval x) (a.eval y) = pure () := by rw [ex]; apply eqGuard_at_slice
  have hK : K (.bool ad.isNone) h := by
   cases ad with
   | none => exact h1 (hn rfl)
   | some _ => exact h2
  refine .rm hc (.mk (v := .bool ad.isNone) hK (aT.bool _) fun w' _ => yS (Kt hg ?_))
  rw [ex, ey]
  first | exact Lib.run_eql_slice_nil _ _ _ _ _ _ _ _ hu | exact run_eql_slice_nil _ _ _ _ _ _ hu
 ·exact .rm hc (mY hT hc.heap ht hp)
theorem Fi {i j : Nat} (h : Nat.blt i j = false) : j ≤ i := by
 rcases aeK i j with hl | hl
 ·have : Nat.blt i j = true := by simpa using hl
  rw [this] at h; cases h
 ·exact hl
theorem Dl {s x : Operand} {t tx : TypeId} {sv xv v' : Value} {w' : World} (hs : a.eval s = sv) (hx : a.eval x = xv) (hr : (Builtin.copy_ #[t, tx] ty #[sv, xv]).run P w = .ok v' w') :
  (execOp a.eval ⟨dst, .call ⟨.builtin .copy, #[s, x], #[t, tx]⟩, ty, pos, after, guard⟩).run P w = .ok (.value v') w' := by
 simp only [execOp, resolve, invoke, builtin, Sem.run_bind, Sem.run_pure, Result.andThen_ok, List.map_toArray, aeg, aem, hs, hx, hr]
theorem HE (t tx ty e : TypeId) (i : TypeInfo) (ht : P.underlying t = some (.slice e)) (hi : P.info? e = some i)
  (sa : Option Addr) (oI ye : Nat) (xv : Value) (m : Nat) (news : Array Value) (w' : World) (hlen : (Builtin.lenOf xv).run P w = .ok m w) (Wg : (Builtin.firstCells i.size m xv).run P w = .ok news w) (hle : m ≤ oI)
  (vZ : match sa with | some a => (storeCells a news.toList).run P w = .ok () w' | none => w' = w) :
  (Builtin.copy_ #[t, tx] ty #[.slice sa oI ye, xv]).run P w = .ok (.int .i64 m) w' := by
 have hm : Nat.min m oI = m := Nat.min_eq_left hle
 cases sa with
 | none =>
  have vZ : w' = w := vZ
  subst vZ
  simp [Builtin.copy_, run_underlying ht, sizeOf, typeInfo, hi, hlen, hm, Wg, goInt]
 | some a =>
  have vZ : (storeCells a news.toList).run P w = .ok () w' := vZ
  simp [Builtin.copy_, run_underlying ht, sizeOf, typeInfo, hi, hlen, hm, Wg, vZ, goInt]
theorem O1 (hT : di P T) (hc : Core μ h S w) (t tx e sz bytes : Nat) (zero : List PV) (gx : T.get t = .slice e sz bytes zero)
  (s x : Operand) (id g off len n : Nat) (f : Nat → List PV) (hh : h[id]? = some (aj.row g sz n e f)) (hs : bG μ h S w (.own id g off len) (a.eval s)) (m : Nat) (q : Nat → List PV) (Bx : Src P μ h S w (a.eval x) sz m q) (Wh : ∀ (i j : Nat) (pv : PV), i < m → (q i)[j]? = some pv → dK pv = false)
  (hb : m ≤ len) (hK : ∃ h2, dO (h.set id (.row g sz n e (Rs f off m q))) h2 ∧ K (.int .i64 m) h2) :
  gf P ⟨dst, .call ⟨.builtin .copy, #[s, x], #[t, tx]⟩, ty, pos, after, guard⟩ a μ h S w K := by
 obtain ⟨hu, iQ, inf, zv, lU, p7, Sz, hz, PY, PZ, Oh⟩ := hT.slice _ _ _ _ _ gx
 subst p7 Sz
 have hid : id < h.length := (so.1 hh).1
 obtain ⟨LM, news, q1, q2, q3, q4⟩ := Bx
 have xK := hs.rX
 unfold bE at xK
 rw [hh] at xK
 obtain ⟨⟨sa, sl, sU, LP⟩, _, xK⟩ := xK
 obtain ⟨hle, xK⟩ := xK rfl
 obtain ⟨Ed, zA, o1, o2, o3, o4⟩ := yf (P := P) hc id g off len inf.size n e f hh _ hs iQ
 have H2 : sl = len := by
  obtain ⟨e1, _⟩ := o4 w (cy.refl w)
  rw [LP] at e1
  simp [Builtin.lenOf] at e1
  exact e1
 subst H2
 obtain ⟨hl, bp⟩ := hc.heap id g _ n e f hh
 obtain ⟨r1, r2⟩ := q4 w (cy.refl w)
 refine gf.rows ?_
 rcases aeM m with h0 | h0
 ·subst h0
  have hn : news = #[] := aeY (by simpa using q1)
  subst hn
  have hr := HE (P := P) (w := w) t tx ty e inf hu lU sa sl sU (a.eval x) 0 #[] w r1 r2 (aeE _) (by cases sa <;> rfl)
  obtain ⟨h2, he, hK⟩ := hK
  refine gf.jo (h' := h) (μ' := μ) (S' := S) (Dl LP rfl hr) ⟨h2, ?_, hK⟩ (.int _ _) hc Fr.refl
  have e0 : Rs f off 0 q = f := by
   funext i
   unfold Rs
   cases wq : Nat.blt i off
   ·rfl
   ·rfl
  rw [e0] at he
  have es : h.set id (aj.row g inf.size n e f) = h := by
   refine List.ext_getElem? fun j => ?_
   rw [List.getElem?_set]
   by_cases hj : id = j
   ·subst hj; rw [if_pos rfl, if_pos hid, hh]
   ·rw [if_neg hj]
  rwa [es] at he
 ·cases iH : μ id with
  | none =>
   rw [iH] at xK
   rw [LP] at xK
   injection xK with e1 e2 e3
   omega
  | some p =>
   obtain ⟨b, base⟩ := p
   rw [iH] at xK bp
   obtain ⟨ad, cap, hv, QX, wM, ig⟩ := xK
   have Qn : ∀ b base, μ id = some (b, base) → ¬ rY w b := fun b' rk Rt => by
    rw [iH] at Rt
    injection Rt with Rt
    injection Rt with h1 h2
    subst h1
    exact ig.EU
   rw [LP] at hv
   injection hv with e1 e2 e3
   subst e1 e3
   obtain ⟨cur, pJ, vC, kB⟩ := cp.cells ig bp
   have OW : base + (off + sU) * inf.size ≤ cur.size := by
    obtain ⟨Ju, e', p1, p2⟩ := ig
    rw [pJ] at p1
    injection p1 with p1
    injection p1 with p1 _ _
    subst p1
    exact p2
   rw [aex] at OW
   have wM := wM agi
   subst wM
   have hmul : m * inf.size ≤ sU * inf.size := aer _ agi
   have vZ := run_storeCells_at P b (base + off * inf.size) e news.toList 0 cur w pJ ago q3
   rw [aeT] at vZ
   generalize hc1 : (cur.toList.take (base + off * inf.size) ++ news.toList ++ cur.toList.drop (base + off * inf.size + news.toList.length)).toArray = p8 at vZ
   have c1 : p8.size = cur.size := by subst hc1; simp; omega
   have c3 : ∀ k : Nat, p8[k]? = if base + off * inf.size ≤ k ∧ k < base + off * inf.size + m * inf.size then news[k - (base + off * inf.size)]? else cur[k]? := fun k => by
    subst hc1
    have Zw := vF cur.toList news.toList (base + off * inf.size) k ago
    rw [List.getElem?_toArray, Zw]
    simp only [aew, aeO, q1]
   have hr := HE (P := P) (w := w) t tx ty e inf hu lU (some ⟨b, base + off * inf.size, none⟩) sl sU (a.eval x) m news (w.setRow b p8) r1 r2 hb vZ
   have SU : ∀ i, i < n → (Rs f off m q i).length = inf.size := fun i hi => by
    unfold Rs
    cases de : Nat.blt i off
    ·cases jr : Nat.blt i (off + m)
     ·exact hl i hi
     ·have O2 := Fi de
      have O3 : i < off + m := by simpa using jr
      exact LM _ agi
    ·exact hl i hi
   have pK := wP (w1 := w.setRow b p8) hc id g g inf.size n n e f (Rs f off m q) hh b base p8 (aeb _) (fun _ => ⟨iH, rfl⟩)
    (.inr ⟨base, cur, iH, pJ, c1.symm⟩) (setRow_heap w b cur _ e _ pJ) (by rw [c1]; exact vC) (fun b' _ rZ => setRow_other w b b' _ rZ) agk rfl rfl rfl SU Qn
    (fun i j pv hi hj => by
     have Jn : j < inf.size := by rw [← SU i hi]; exact (so.1 hj).1
     rw [c3]
     have e1 : i * inf.size + inf.size = (i + 1) * inf.size := by rw [aex, Nat.one_mul]
     unfold Rs at hj
     cases de : Nat.blt i off
     ·rw [de] at hj
      have O2 : off ≤ i := Fi de
      have e2 : off * inf.size ≤ i * inf.size := aer _ O2
      cases jr : Nat.blt i (off + m)
      ·rw [jr] at hj
       simp only [cond_false] at hj
       have O3 : off + m ≤ i := Fi jr
       have e3 : (off + m) * inf.size ≤ i * inf.size := aer _ O3
       rw [aex] at e3
       rw [if_neg agi]
       exact kB i j pv hi hj
      ·rw [jr] at hj
       simp only [cond_false, cond_true] at hj
       have O3 : i < off + m := by simpa using jr
       have e3 : (i + 1) * inf.size ≤ (off + m) * inf.size := aer _ O3
       have e5 : (off + m) * inf.size = off * inf.size + m * inf.size := aex _ _ _
       rw [if_pos agi]
       obtain ⟨u, p1, p2⟩ := q2 (i - off) j pv agi hj
       refine ⟨u, ?_, p2⟩
       rw [← p1]
       congr 1
       have e4 : i * inf.size = off * inf.size + (i - off) * inf.size := by rw [← aex]; congr 1; omega
       omega
     ·rw [de] at hj
      simp only [cond_true] at hj
      have O2 : i < off := by simpa using de
      have e3 : (i + 1) * inf.size ≤ off * inf.size := aer _ O2
      rw [if_neg agi]
      exact kB i j pv hi hj) 0 (fun i j bV n' e' f' F' hi hj => by
    rw [No]
    refine ⟨hi, ?_⟩
    unfold Rs at hj
    cases de : Nat.blt i off
    ·rw [de] at hj
     have O2 : off ≤ i := Fi de
     cases jr : Nat.blt i (off + m)
     ·rw [jr] at hj; exact hj
     ·rw [jr] at hj
      have O3 : i < off + m := by simpa using jr
      have := Wh (i - off) j _ agi hj
      cases this
    ·rw [de] at hj; exact hj)
   obtain ⟨lr, sG⟩ := pK
   exact gf.jo (Dl LP rfl hr) hK (.int _ _) sG lr
theorem JP (hT : di P T) (hc : Core μ h S w) (ht : ∀ t, bG μ h S w (env t) (a.tmps.getD t undef)) (args : Array Operand) (ts : Array TypeId) (hp : pop P T (.call ⟨.builtin .copy, args, ts⟩) env h K) :
  gf P ⟨dst, .call ⟨.builtin .copy, args, ts⟩, ty, pos, after, guard⟩ a μ h S w K := by
 obtain ⟨args⟩ := args
 obtain ⟨ts⟩ := ts
 simp only [pop] at hp
 split at hp
 ·rename_i s x t tx
  have hs := bQ ht s
  have hx := bQ ht x
  have main : ∀ (e sz bytes : Nat) (zero : List PV), T.get t = .slice e sz bytes zero → BA e sz (ev env s) (ev env x) h K →
    gf P ⟨dst, .call ⟨.builtin .copy, #[s, x], #[t, tx]⟩, ty, pos, after, guard⟩ a μ h S w K := by
   intro e sz bytes zero gx hp
   have iQ := (hT.slice _ _ _ _ _ gx).2.1
   unfold BA at hp
   split at hp
   ·rename_i id gen off len hes
    rw [hes] at hs
    split at hp
    ·rename_i g bV n e' f hg
     obtain ⟨rfl, hp⟩ := hp
     replace hp := bB hp
     obtain ⟨CE, hp⟩ := hp
     simp only [an] at CE
     obtain rfl := Is CE.1
     obtain rfl := Is CE.2
     obtain ⟨m, q, ⟨hb, f', zU, hK⟩, Bx, Wh⟩ := yg (P := P) hc _ _ hx sz iQ _ hp
     exact O1 hT hc t tx e sz bytes zero gx s x id g off len n f (eW hg) hs m q Bx Wh hb ⟨_, dO.set _ _ _ _ _ _ _ _ zU, hK⟩
    ·exact afL
   ·exact afL
  split at hp
  ·rename_i e sz bytes zero e' bV Wi aan gx VI
   exact main e sz bytes zero gx hp
  ·rename_i e sz bytes zero gx VI
   exact main e sz bytes zero gx hp
  ·exact afL
 ·exact afL
theorem Dm (hT : di P T) (hc : Core μ h S w) (ht : ∀ t, bG μ h S w (env t) (a.tmps.getD t undef)) {op : Op} (hp : pop P T op env h K) :
  gf P ⟨dst, op, ty, pos, after, guard⟩ a μ h S w K := by
 cases op with
 | store t ad x => exact Hj hT hc ht t ad x hp
 | makeSlice t l c => exact Jv hT hc ht t l c hp
 | box t x => exact LF hc ht t x hp
 | alloc t => exact Hl hT hc t hp
 | buildSlice t len parts => exact ya hT hc ht t len parts hp
 | convert s d x => exact Bz hT hc ht s d x hp
 | binOp bo t x y t' => exact Fh hT hc ht bo t t' x y hp
 | makeMap t r => cases r with
  | none => exact CL hT hc t hp
  | some r => exact hp.elim
 | mapUpdate t m k x => exact zC hT hc ht t m k x hp
 | call c =>
  obtain ⟨Zs, args, ts⟩ := c
  cases Zs with
  | value fo => exact JM hc ht fo args ts hp
  | invoke r m => exact .rm hc (mY hT hc.heap ht hp)
  | builtin b => cases b with
   | append => exact Ff hT hc ht args ts hp
   | copy => exact JP hT hc ht args ts hp
   | _ => exact .rm hc (mY hT hc.heap ht hp)
 | _ => exact .rm hc (mY hT hc.heap ht hp)
end
section
variable {P : Program} {T : oO} {μ : Mu} {h η : List aj} {k : List Nat} {S : Nat → Prop} {w : World} {m : Nat}
theorem wU.get : ∀ (l r : List PV), wU h η k l r → r.length = l.length ∧ ∀ (j : Nat) (pv fC : PV), l[j]? = some pv → r[j]? = some fC → Fz h η k pv fC
 | [], [], _ => ⟨rfl, fun j pv fC hj => by simp at hj⟩
 | [], _ :: _, hh => hh.elim
 | _ :: _, [], hh => hh.elim
 | a :: l, b :: r, hh => by
  obtain ⟨h1, h2⟩ := hh
  obtain ⟨q1, q2⟩ := wU.get l r h2
  refine ⟨by simp [q1], fun j pv fC hj Ha => ?_⟩
  cases j with
  | zero =>
   simp at hj Ha
   subst hj Ha
   exact h1
  | succ j => exact q2 j pv fC agt (by simpa using Ha)
theorem nd : ∀ (l : List aj) (r : List Nat) (i : Nat), pO h η k m i l r → l.length = r.length ∧ ∀ (j : Nat) (o : aj), l[j]? = some o → ∃ id, r[j]? = some id ∧ vH h η k m o (i + j) id
 | [], [], i, _ => ⟨rfl, fun j o hj => by simp at hj⟩
 | [], _ :: _, _, hh => hh.elim
 | _ :: _, [], _, hh => hh.elim
 | o :: l, id :: r, i, hh => by
  obtain ⟨h1, h2⟩ := hh
  obtain ⟨q1, q2⟩ := nd l r (i + 1) h2
  refine ⟨by simp [q1], fun j o' hj => ?_⟩
  cases j with
  | zero =>
   simp at hj
   subst hj
   exact ⟨id, rfl, h1⟩
  | succ j =>
   simp at hj
   obtain ⟨id', r1, r2⟩ := q2 j o' hj
   exact ⟨id', by simpa using r1, by rw [show i + (j + 1) = i + 1 + j from by omega]; exact r2⟩
def lG (μ : Mu) (h : List aj) (k : List Nat) : Mu := fun id' => match k[id']? with | some id => (match h[id]? with | some _ => μ id | none => none) | none => none
theorem se {μ : Mu} {h : List aj} {k : List Nat} {id id' : Nat} {o : aj} (hk : k[id']? = some id) (ho : h[id]? = some o) : lG μ h k id' = μ id := by unfold lG; rw [hk]; simp only [ho]
theorem Dn {μ : Mu} {h : List aj} {k : List Nat} {id id' : Nat} (hk : k[id']? = some id) (ho : h[id]? = none) : lG μ h k id' = none := by unfold lG; rw [hk]; simp only [ho]
def Dp (μ : Mu) (h : List aj) (k : List Nat) (S : Nat → Prop) : Nat → Prop :=
 fun b => S b ∨ ∃ (id g sz n : Nat) (e : TypeId) (f : Nat → List PV) (base : Nat), id ∉ k ∧ h[id]? = some (aj.row g sz n e f) ∧ (μ id = some (b, base) ∨ ∃ i j, dL h id i j b)
theorem O4 {S S' : Nat → Prop} {w : World} (hS : ∀ b, S b → S' b) {pv : PV} {v : Value} (h : lE S w pv v) : ∀ fC, zy pv fC → (∀ sz n e f F, pv = .aY sz n e f F → ∀ b, F b → S' b) → aT S' w fC v := by
 induction h with
 | nil sz e f F hF =>
  intro fC ho _
  cases ho
  exact .p6 _ _ _ _
 | HF sz n e f F b off c a cur vf hF hb hlen hc ha ig bp mX wQ CM HG ih =>
  intro fC ho hk
  have hk := hk _ _ _ _ _ rfl
  cases ho with
  | mk _ _ _ _ f' _ hl hf hoo hp =>
   rcases aeM n with h0 | h0
   ·subst h0; exact .p6 _ _ _ _
   ·obtain rfl := ha agi
    have get : ∀ (i j : Nat) (fC : PV), i < n → (f' i)[j]? = some fC → ∃ pv, (f i)[j]? = some pv := fun i j fC hi hj => by
     have H4 : j < (f i).length := by rw [← hl i hi]; exact (so.1 hj).1
     exact ⟨_, As H4⟩
    refine .fM sz n f' b off c vf (hk b hF) (fun i hi => by rw [hl i hi]; exact hlen i hi) hc (fun i j fC hi hj => ?_) (fun i j fC hi hj => ?_)
    ·obtain ⟨pv, sd⟩ := get i j fC hi hj
     rw [cell_of_row w b _ cur e (0, 0) hb, ← bp i j pv hi sd]
    ·obtain ⟨pv, sd⟩ := get i j fC hi hj
     cases hx : dK pv with
     | false =>
      rw [hf i j pv fC hi sd hj hx]
      rcases mX i j pv hi sd with q | ⟨_, _, _, _, _, q⟩
      ·exact q.mono (fun _ _ => rfl) hS
      ·rw [q] at hx; cases hx
     | true =>
      have hoo := hoo i j pv fC hi sd hj hx
      cases pv with
      | aY qy n2 e2 f2 F2 => exact ih i j qy n2 e2 f2 F2 hi sd fC hoo (fun _ _ _ _ _ he b' nO => by
        injection he with _ _ _ _ he
        subst he
        exact hk b' (CM i j _ _ _ _ _ hi sd b' nO).1)
      | _ => cases hx
theorem uw {μ' : Mu} {h' : List aj} {S' : Nat → Prop} {pv : PV} {v : Value} (hp : bC pv = true) (hc : bR μ' h' S' w pv v) : aT S' w pv v := by
 cases pv <;> first | exact hc | cases hp
theorem tV (hc : Core μ h S w) (hh : pO h η k m 0 η k) {pv fC : PV} (hz : Fz h η k pv fC) :
  (∀ v, bR μ h S w pv v → bR (lG μ h k) η (Dp μ h k S) w fC v) ∧ (∀ v, jm μ h S w pv v → jm (lG μ h k) η (Dp μ h k S) w fC v) ∧ (∀ v, bG μ h S w pv v → bG (lG μ h k) η (Dp μ h k S) w fC v) := by
 have up : ∀ pv v, aT S w pv v → aT (Dp μ h k S) w pv v := fun pv v hp => aT.mono (fun _ _ => rfl) (fun b hb => .inl hb) hp
 have same : ∀ pv : PV, (∀ v, bR μ h S w pv v → aT S w pv v) → (∀ v, jm μ h S w pv v → bR μ h S w pv v) → (∀ v, bG μ h S w pv v → jm μ h S w pv v) → ∀ fC : PV, (∀ v, aT S w pv v → aT (Dp μ h k S) w fC v) →
   (∀ v, bR μ h S w pv v → bR (lG μ h k) η (Dp μ h k S) w fC v) ∧ (∀ v, jm μ h S w pv v → bR (lG μ h k) η (Dp μ h k S) w fC v) ∧ (∀ v, bG μ h S w pv v → bR (lG μ h k) η (Dp μ h k S) w fC v) :=
  fun pv h1 h2 h3 fC hp => ⟨fun v hv => bR.j5 (hp v (h1 v hv)), fun v hv => bR.j5 (hp v (h1 v (h2 v hv))), fun v hv => bR.j5 (hp v (h1 v (h2 v (h3 v hv))))⟩
 induction hz with
 | int k' n => exact same (.int k' n) (fun _ h => h) (fun _ h => h) (fun _ h => h) _ (up _)
 | bool b => exact same (.bool b) (fun _ h => h) (fun _ h => h) (fun _ h => h) _ (up _)
 | str s => exact same (.str s) (fun _ h => h) (fun _ h => h) (fun _ h => h) _ (up _)
 | aO => exact same .aO (fun _ h => h) (fun _ h => h) (fun _ h => h) _ (up _)
 | SL sz f => exact same .aO (fun _ h => h) (fun _ h => h) (fun _ h => h) (.fM sz 0 f) (fun v hv => by cases hv; exact .p6 _ _ _ _)
 | Z6 id id' g' bV e' f' hk ho hη =>
  have key : ∀ v, v = Value.slice none 0 0 → bE (lG μ h k) η w id' g' 0 0 v := fun v hv => by
   unfold bE
   rw [hη]
   refine ⟨⟨_, _, _, hv⟩, aeb _, fun _ => ⟨aeb _, ?_⟩⟩
   rw [Dn hk ho]
   exact hv
  have inv : ∀ v, aT S w .aO v → v = Value.slice none 0 0 := fun v hv => by cases hv; rfl
  exact ⟨fun v hv => key v (inv v hv), fun v hv => key v (inv v hv), fun v hv => key v (inv v hv)⟩
 | fn f => exact same (.fn f) (fun _ h => h) (fun _ h => h) (fun _ h => h) _ (up _)
 | fx cs => exact same (.fx cs) (fun _ h => h) (fun _ h => h) (fun _ h => h) _ (up _)
 | fM sz n f f' hf =>
  exact same (.fM sz n f) (fun _ h => h) (fun _ h => h) (fun _ h => h) (.fM sz n f') (fun v hv => by
   have hv := up _ _ hv
   cases hv with
   | p6 _ _ a c => exact .p6 _ _ _ _
   | fM _ _ _ b off c vf h1 h2 h3 h4 h5 =>
    exact .fM sz n f' b off c vf h1 (fun i hi => by rw [hf i hi]; exact h2 i hi) h3 (fun i j pv hi hj => h4 i j pv hi (by rw [← hf i hi]; exact hj)) (fun i j pv hi hj => h5 i j pv hi (by rw [← hf i hi]; exact hj)))
 | jc pv => exact ⟨fun v hv => hv.one, fun _ _ => trivial, fun _ _ => trivial⟩
 | aY sz n e f F => exact ⟨fun v hv => hv, fun v hv => hv, fun v hv => hv⟩
 | we sz e f => exact ⟨fun v hv => bR.one hv, fun v hv => bR.one (pv := .aO) (μ := μ) (h := h) hv, fun v hv => bR.one (pv := .aO) (μ := μ) (h := h) hv⟩
 | own id id' g g' sz bV n n' off len e e' f f' hk ho hη hn =>
  have key : ∀ v, bE μ h w id g off len v → bE (lG μ h k) η w id' g' off len v := fun v hv => by
   unfold bE at hv ⊢
   rw [ho] at hv
   rw [hη]
   obtain ⟨h1, _, jT⟩ := hv
   have DI := jT rfl
   clear jT
   obtain ⟨h2, h3⟩ := DI
   obtain ⟨_, cO⟩ := nd η k 0 hh
   obtain ⟨Ru, r1, r2⟩ := cO id' _ hη
   rw [hk] at r1
   injection r1 with r1
   subst r1
   unfold vH at r2
   rw [ho] at r2
   obtain ⟨_, rfl, _, _⟩ := r2
   refine ⟨h1, aeb _, fun _ => ⟨hn, ?_⟩⟩
   have hm : lG μ h k id' = μ id := se hk ho
   rw [hm]
   exact h3
  exact ⟨key, key, key⟩
 | aN id id' g g' sz bV n n' i off e e' f f' hk ho hη hn =>
  have key : ∀ v, bU μ h w id g i off v → bU (lG μ h k) η w id' g' i off v := fun v hv => by
   unfold bU at hv ⊢
   rw [ho] at hv
   rw [hη]
   obtain ⟨h1, _, jT⟩ := hv
   have DI := jT rfl
   clear jT
   obtain ⟨h2, h3⟩ := DI
   obtain ⟨_, cO⟩ := nd η k 0 hh
   obtain ⟨Ru, r1, r2⟩ := cO id' _ hη
   rw [hk] at r1
   injection r1 with r1
   subst r1
   unfold vH at r2
   rw [ho] at r2
   obtain ⟨_, rfl, _, _⟩ := r2
   refine ⟨h1, aeb _, fun _ => ⟨hn, ?_⟩⟩
   have hm : lG μ h k id' = μ id := se hk ho
   rw [hm]
   exact h3
  exact ⟨key, key, key⟩
 | om f bN wW hl Sw =>
  have key : ∀ v, n9 μ h w f bN v → n9 (lG μ h k) η w f wW v := fun v hv => by
   obtain ⟨vs, h1, h2, h3⟩ := hv
   refine ⟨vs, h1, h2.trans hl.symm, fun j p' hj => ?_⟩
   have bP : j < bN.length := by rw [← hl]; exact (so.1 hj).1
   obtain ⟨hk, ⟨sz, n, e, g, ho⟩, bV, n', e', g', hη, hn⟩ := Sw j _ p' (As bP) hj
   obtain ⟨u, q1, q2⟩ := h3 j _ (As bP)
   refine ⟨u, q1, ?_⟩
   unfold bU at q2 ⊢
   rw [ho] at q2
   rw [hη]
   obtain ⟨a1, _, a2⟩ := q2
   have a3 := a2 rfl
   clear a2
   obtain ⟨a4, a5⟩ := a3
   obtain ⟨_, cO⟩ := nd η k 0 hh
   obtain ⟨Ru, r1, r2⟩ := cO p'.1 _ hη
   rw [hk] at r1
   injection r1 with r1
   subst r1
   unfold vH at r2
   rw [ho] at r2
   obtain ⟨_, rfl, _, _⟩ := r2
   refine ⟨a1, aeb _, fun _ => ⟨hn, ?_⟩⟩
   rw [se hk ho]
   exact a5
  exact ⟨key, key, key⟩
 | kN id id' g g' sz bV n n' e e' f f' hk ho hη =>
  have key : ∀ v, fX μ h w id v → fX (lG μ h k) η w id' v := fun v hv => by
   unfold fX at hv ⊢
   rw [ho] at hv
   rw [hη]
   obtain ⟨h1, b, base, q1, q2, q3⟩ := hv
   exact ⟨h1, b, base, (se hk ho).trans q1, q2, q3⟩
  exact ⟨key, key, key⟩
 | ZY id g sz n off len e f f' hk ho hl hp hf ih =>
  have key : ∀ v, bE μ h w id g off len v → bR (lG μ h k) η (Dp μ h k S) w (.fM sz len f') v := fun v hv => by
   refine bR.j5 ?_
   unfold bE at hv
   rw [ho] at hv
   obtain ⟨_, _, hv⟩ := hv
   obtain ⟨hle, hv⟩ := hv rfl
   obtain ⟨hlr, bp⟩ := hc.heap id g sz n e f ho
   cases iH : μ id with
   | none =>
    rw [iH] at hv bp
    have hn : n = 0 := bp
    have h0 : len = 0 := by omega
    subst h0
    have hv : v = .slice none 0 0 := hv
    subst hv
    exact .p6 _ _ _ _
   | some p =>
    obtain ⟨b, base⟩ := p
    rw [iH] at hv bp
    obtain ⟨ad, cap, rfl, QX, wM, Jp⟩ := hv
    obtain ⟨cur, pJ, vC, kB⟩ := cp.cells Jp bp
    rcases aeM len with h0 | h0
    ·subst h0
     exact .p6 _ _ _ _
    ·have wM := wM agi
     subst wM
     have hcl : ∀ (i j : Nat) (fC : PV), i < len → (f' i)[j]? = some fC → ∃ u, w.cell? ⟨b, base + off * sz + i * sz + j, none⟩ = some u ∧ aT (Dp μ h k S) w fC u := fun i j fC hi hj => by
      have H4 : j < (f (off + i)).length := by rw [← hl i hi]; exact (so.1 hj).1
      have sd := As H4
      obtain ⟨u, h1, h2⟩ := kB (off + i) j _ agi sd
      have h3 : aT (Dp μ h k S) w fC u := by
       by_cases hof : zy (f (off + i))[j] fC
       ·generalize hpv : (f (off + i))[j] = pv at hof h2 sd
        cases hof with
        | mk qy n2 e2 f2 f2' F2 a1 a2 a3 a4 =>
         exact O4 (fun b hb => .inl hb) (show lE S w (.aY qy n2 e2 f2 F2) u from h2) _ (.mk qy n2 e2 f2 f2' F2 a1 a2 a3 a4) (fun _ _ _ _ _ he b' nO => by
          injection he with _ _ _ _ he
          subst he
          exact .inr ⟨id, g, sz, n, e, f, base, hk, ho, .inr ⟨off + i, j, _, _, _, _, _, _, _, _, _, _, ho, by omega, sd, nO⟩⟩)
       ·exact uw (hp i j fC hi hj) ((ih i j _ fC hi sd hj hof).1 u h2.c)
      refine ⟨u, ?_, h3⟩
      rw [cell_of_row w b _ cur e (0, 0) pJ, ← h1]
      congr 1
      rw [aex]
      omega
     refine .fM sz len f' b (base + off * sz) cap (fun i j => (w.cell? ⟨b, base + off * sz + i * sz + j, none⟩).getD undef) (.inr ⟨id, g, sz, n, e, f, base, hk, ho, .inl iH⟩) (fun i hi => by rw [hl i hi]; exact hlr _ agi) QX (fun i j pv hi hj => ?_) (fun i j pv hi hj => ?_)
     ·obtain ⟨u, h1, _⟩ := hcl i j pv hi hj
      rw [h1]; rfl
     ·obtain ⟨u, h1, h2⟩ := hcl i j pv hi hj
      simp only [h1, Option.getD_some]
      exact h2
  exact ⟨key, key, key⟩
 | agg cs yc hl Sw ih =>
  have key : ∀ v, jm μ h S w (.agg cs) v → jm (lG μ h k) η (Dp μ h k S) w (.agg yc) v := fun v hv => by
   obtain ⟨vs, h1, h2, h3⟩ := hv
   refine ⟨vs, h1, h2.trans hl.symm, fun j fC hj => ?_⟩
   have H4 : j < cs.length := by rw [← hl]; exact (so.1 hj).1
   have sd := As H4
   obtain ⟨u, q1, q2⟩ := h3 j _ sd
   exact ⟨u, q1, (ih j _ fC sd hj).1 u q2⟩
  exact ⟨fun _ hv => (show False from hv).elim, key, key⟩
 | dG cs yc hl Sw ih =>
  refine ⟨fun _ hv => (show False from hv).elim, fun _ hv => (show False from hv).elim, fun v hv => ?_⟩
  obtain ⟨vs, h1, h2, h3⟩ := hv
  refine ⟨vs, h1, h2.trans hl.symm, fun j fC hj => ?_⟩
  have H4 : j < cs.length := by rw [← hl]; exact (so.1 hj).1
  have sd := As H4
  obtain ⟨u, q1, q2⟩ := h3 j _ sd
  exact ⟨u, q1, (ih j _ fC sd hj).2.1 u q2⟩
end
section
variable {P : Program} {T : oO} {μ : Mu} {h η : List aj} {k : List Nat} {S : Nat → Prop} {w : World} {m : Nat}
theorem O5 {a a' : PV} (hz : Fz h η k a a') (ha : tL a = true) : tL a' = true ∧ ∀ v, sB a v → sB a' v := by
 cases hz with
 | int k' n => exact ⟨rfl, fun _ h => h⟩
 | bool b => exact ⟨rfl, fun _ h => h⟩
 | str s => exact ⟨rfl, fun _ h => h⟩
 | jc _ => exact ⟨rfl, fun v h => by
   cases a <;> first | (cases ha; done) | (have h : v = _ := h; subst h; rfl) | exact h⟩
 | _ => cases ha
theorem KM {a a' : PV} (hz : Fz h η k a a') (ha : j4 a = true) : j4 a' = true ∧ ∀ v, qN a v → qN a' v := by
 cases hz with
 | int k' n => exact ⟨rfl, fun _ h => h⟩
 | bool b => exact ⟨rfl, fun _ h => h⟩
 | str s => exact ⟨rfl, fun _ h => h⟩
 | jc _ => exact ⟨rfl, fun _ _ => trivial⟩
 | agg cs yc hl hc =>
  have el : ∀ j fC, yc[j]? = some fC → ∃ pv, cs[j]? = some pv ∧ tL fC = true ∧ ∀ v, sB pv v → sB fC v := fun j fC hj => by
   have bP : j < cs.length := by rw [← hl]; exact (so.1 hj).1
   have h1 := As bP
   have h2 := O5 (hc j _ _ h1 hj) (aei.1 ha _ (aef bP))
   exact ⟨_, h1, h2⟩
  refine ⟨aei.2 (fun x hx => ?_), fun v hv => ?_⟩
  ·obtain ⟨j, hj, rfl⟩ := aeP.1 hx
   obtain ⟨_, _, h2, _⟩ := el j _ (As hj)
   exact h2
  ·obtain ⟨vs, q1, q2, q3⟩ := hv
   refine ⟨vs, q1, q2.trans hl.symm, fun j fC hj => ?_⟩
   obtain ⟨pv, e1, _, e2⟩ := el j fC hj
   obtain ⟨u, hu, hr⟩ := q3 j pv e1
   exact ⟨u, hu, e2 u hr⟩
 | _ => cases ha
theorem BB : ∀ {l : List Nat} {x i : Nat}, l[i]? = some x → LS l x = true
 | [], x, i, h => by simp at h
 | a :: r, x, 0, h => by
  simp at h; subst h
  unfold LS
  rw [show Nat.beq a a = true from aeZ a]
 | a :: r, x, i + 1, h => by
  unfold LS
  cases Nat.beq a x
  ·exact BB agz
  ·rfl
theorem ux : ∀ {η : List aj} {k : List Nat} {i id g sz n : Nat} {e : TypeId} {f : Nat → List PV}, η[i]? = some (aj.row g sz n e f) → k[i]? = some id → ∃ j : Nat, (nR η k)[j]? = some id
 | [], _, i, _, _, _, _, _, _, h, _ => by simp at h
 | _ :: _, [], i, _, _, _, _, _, _, _, h => by simp at h
 | .row _ _ _ _ _ :: r, a :: is, 0, id, _, _, _, _, _, _, h => by simp at h; subst h; exact ⟨0, rfl⟩
 | .dead :: r, a :: is, 0, id, _, _, _, _, _, h, _ => by simp at h
 | .row _ _ _ _ _ :: r, a :: is, i + 1, id, _, _, _, _, _, h1, h2 => by
  obtain ⟨j, hj⟩ := ux (i := i) agG agw
  exact ⟨j + 1, by simpa [nR] using hj⟩
 | .dead :: r, a :: is, i + 1, id, _, _, _, _, _, h1, h2 => by
  obtain ⟨j, hj⟩ := ux (i := i) agG agw
  exact ⟨j, by simpa [nR] using hj⟩
theorem uy : ∀ {η : List aj} {k : List Nat} {i j id g sz n g' bV n' : Nat} {e e' : TypeId} {f f' : Nat → List PV}, oc (nR η k) = true → η[i]? = some (aj.row g sz n e f) → k[i]? = some id → η[j]? = some (aj.row g' bV n' e' f') → k[j]? = some id → i = j
 | [], _, i, _, _, _, _, _, _, _, _, _, _, _, _, _, h, _, _, _ => by simp at h
 | _ :: _, [], i, _, _, _, _, _, _, _, _, _, _, _, _, _, _, h, _, _ => by simp at h
 | .row _ _ _ _ _ :: r, a :: is, 0, 0, _, _, _, _, _, _, _, _, _, _, _, _, _, _, _, _ => rfl
 | .row _ _ _ _ _ :: r, a :: is, 0, j + 1, id, _, _, _, _, _, _, _, _, _, _, hn, _, h2, h3, h4 => by
  simp at h2; subst h2
  obtain ⟨q, hq⟩ := ux (η := r) (k := is) (i := j) (by simpa using h3) (by simpa using h4)
  unfold nR oc at hn
  rw [BB hq] at hn; cases hn
 | .row _ _ _ _ _ :: r, a :: is, i + 1, 0, id, _, _, _, _, _, _, _, _, _, _, hn, h1, h2, _, h4 => by
  simp at h4; subst h4
  obtain ⟨q, hq⟩ := ux (η := r) (k := is) (i := i) agG agw
  unfold nR oc at hn
  rw [BB hq] at hn; cases hn
 | .row _ _ _ _ _ :: r, a :: is, i + 1, j + 1, id, _, _, _, _, _, _, _, _, _, _, hn, h1, h2, h3, h4 => by
  unfold nR oc at hn
  cases hm : LS (nR r is) a with
  | true => rw [hm] at hn; cases hn
  | false =>
   rw [hm] at hn
   rw [uy (η := r) (k := is) (i := i) (j := j) hn agG agw (by simpa using h3) (by simpa using h4)]
 | .dead :: r, a :: is, 0, _, _, _, _, _, _, _, _, _, _, _, _, _, h, _, _, _ => by simp at h
 | .dead :: r, a :: is, _ + 1, 0, _, _, _, _, _, _, _, _, _, _, _, _, _, _, h, _ => by simp at h
 | .dead :: r, a :: is, i + 1, j + 1, id, _, _, _, _, _, _, _, _, _, _, hn, h1, h2, h3, h4 => by
  rw [uy (η := r) (k := is) (i := i) (j := j) hn agG agw (by simpa using h3) (by simpa using h4)]
theorem xh (hc : Core μ h S w) (hh : pO h η k m 0 η k) (hk : oc (nR η k) = true) : Core (lG μ h k) η (Dp μ h k S) w ∧ (∀ b, cz (lG μ h k) η b → cz μ h b) ∧ ∀ b, Dp μ h k S b → S b ∨ cz μ h b := by
 obtain ⟨hlen, cO⟩ := nd η k 0 hh
 have back : ∀ (id' g' bV n' : Nat) (e' : TypeId) (f' : Nat → List PV), η[id']? = some (aj.row g' bV n' e' f') → (n' = 0 ∧ lG μ h k id' = none) ∨ ∃ (id g : Nat) (f : Nat → List PV), k[id']? = some id ∧ (∃ n, h[id]? = some (aj.row g bV n e' f) ∧ n' ≤ n ∧ (n' = n ∨ bV ≠ 2)) ∧ lG μ h k id' = μ id ∧
   ∀ i, i < n' → (f' i).length = (f i).length ∧ ∀ (j : Nat) (pv fC : PV), (f i)[j]? = some pv → (f' i)[j]? = some fC → Fz h η k pv fC := fun id' g' bV n' e' f' hη => by
  obtain ⟨id, r1, r2⟩ := cO id' _ hη
  unfold vH at r2
  cases ho : h[id]? with
  | none => rw [ho] at r2; exact .inl ⟨r2.2, Dn r1 ho⟩
  | some o =>
   cases o with
   | dead => rw [ho] at r2; exact r2.elim
   | row g sz n e f =>
    rw [ho] at r2
    obtain ⟨_, rfl, r4, rfl, r3⟩ := r2
    refine .inr ⟨id, g, f, r1, ⟨n, ho, ?_⟩, se r1 ho, fun i hi => wU.get _ _ (r3 i hi)⟩
    rcases r4 with rfl | ⟨_, r5, r6⟩
    ·exact ⟨aeb _, .inl rfl⟩
    ·exact ⟨r6, .inr r5⟩
 have zB : ∀ b, B5 (lG μ h k) η b → ∃ id, id ∈ k ∧ ∃ g sz n e f base, h[id]? = some (aj.row g sz n e f) ∧ μ id = some (b, base) := fun b hb => by
  obtain ⟨id', g', bV, n', e', f', base, hη, hm⟩ := hb
  rcases back id' g' bV n' e' f' hη with ⟨_, q3⟩ | ⟨id, g, f, q1, ⟨n, q2, _⟩, q3, _⟩
  ·rw [q3] at hm; cases hm
  ·rw [q3] at hm
   exact ⟨id, ael q1, g, bV, n, e', f, base, q2, hm⟩
 have aap : ∀ {pv : PV} {sz n : Nat} {e : TypeId} {f : Nat → List PV} {F : Nat → Prop}, Fz h η k pv (.aY sz n e f F) → pv = .aY sz n e f F ∨ (pv = .aO ∧ n = 0 ∧ ∀ b, ¬ F b) := fun hz => by
  cases hz with
  | aY => exact .inl rfl
  | we => exact .inr ⟨rfl, rfl, fun _ h => h⟩
 have qa : ∀ id' i j b, dL η id' i j b → ∃ id, k[id']? = some id ∧ dL h id i j b ∧ ∃ g sz n e f, η[id']? = some (aj.row g sz n e f) := fun id' i j b ⟨g', bV, n', e', f', qy, n2, e2, f2, F2, q1, q2, q3, q4⟩ => by
  rcases back id' g' bV n' e' f' q1 with ⟨r1, _⟩ | ⟨id, g, f, r1, ⟨n, r2, hle, _⟩, r3, r4⟩
  ·omega
  ·obtain ⟨s1, s2⟩ := r4 i q2
   have H4 : j < (f i).length := by rw [← s1]; exact (so.1 q3).1
   have sd := As H4
   rcases aap (s2 j _ _ sd q3) with this | ⟨_, _, this⟩
   ·exact ⟨id, r1, ⟨g, bV, n, e', f, _, _, _, _, _, r2, by omega, by rw [sd, this], q4⟩, _, _, _, _, _, q1⟩
   ·exact absurd q4 (this b)
 have mL : ∀ b, cz (lG μ h k) η b → cz μ h b := fun b hb => by
  rcases hb with hb | ⟨x, y, z, hb⟩
  ·obtain ⟨id, _, g, sz, n, e, f, base, q2, hm⟩ := zB b hb
   exact .inl ⟨id, g, sz, n, e, f, base, q2, hm⟩
  ·obtain ⟨id, _, q, _⟩ := qa x y z b hb
   exact .inr ⟨_, _, _, q⟩
 have hs : ∀ b, Dp μ h k S b → S b ∨ cz μ h b := fun b hb => by
  rcases hb with hb | ⟨id, g, sz, n, e, f, base, _, h1, h2 | ⟨i, j, h2⟩⟩
  ·exact .inl hb
  ·exact .inr (.inl ⟨id, g, sz, n, e, f, base, h1, h2⟩)
  ·exact .inr (.inr ⟨_, _, _, h2⟩)
 refine ⟨⟨fun id' g' bV n' e' f' hη => ?_, ?_⟩, mL, hs⟩
 ·rcases back id' g' bV n' e' f' hη with ⟨rfl, q3⟩ | ⟨id, g, f, q1, ⟨n, q2, hle, hor⟩, q3, q4⟩
  ·exact ⟨fun i hi => absurd hi (aeB _), by rw [q3]⟩
  obtain ⟨r1, r2⟩ := hc.heap id g bV n e' f q2
  refine ⟨fun i hi => (q4 i hi).1.trans (r1 i (aez hi hle)), ?_⟩
  rw [q3]
  cases hm : μ id with
  | none => rw [hm] at r2; have r2 : n = 0 := r2; show n' = 0; omega
  | some p =>
   obtain ⟨b, base⟩ := p
   rw [hm] at r2
   obtain ⟨o, s1, s2⟩ := r2
   refine ⟨o, s1, ?_⟩
   cases o with
   | cells cur e2 z =>
    obtain ⟨x1, x2, x3, s3⟩ := s2
    refine ⟨x1, x2, aeQ (Nat.add_le_add_left (aer _ hle) _) x3, fun i j fC hi hj => ?_⟩
    have H4 : j < (f i).length := by rw [← (q4 i hi).1]; exact (so.1 hj).1
    have sd := As H4
    obtain ⟨u, t1, t2⟩ := s3 i j _ (aez hi hle) sd
    have hz := (q4 i hi).2 j _ fC sd hj
    refine ⟨u, t1, ?_⟩
    cases hx : dK fC with
    | false => exact bR.k ((tV hc hh hz).1 u t2.c) hx
    | true =>
     cases fC with
     | aY qy n2 e2 f2 F2 =>
      rcases aap hz with hq | ⟨hq, rfl, hF⟩
      ·rw [hq] at t2
       exact lE.mono (fun _ _ => rfl) (fun b hb => .inl hb) (show lE S w (.aY qy n2 e2 f2 F2) u from t2) (fun _ _ _ _ _ _ _ _ => rfl)
      ·rw [hq] at t2
       have t2 : aT S w .aO u := t2
       cases t2
       exact lE.nil _ _ _ _ hF
     | _ => cases hx
   | map es c =>
    obtain ⟨x1, s3⟩ := s2
    have hn : n' = n := by
     rcases hor with h0 | h0
     ·exact h0
     ·rcases aeM n with h1 | h1
      ·omega
      ·obtain ⟨kp, vp, en, y1, _⟩ := s3 0 h1
       have := r1 0 h1
       rw [y1] at this
       exact absurd this.symm h0
    subst hn
    refine ⟨x1, fun i hi => ?_⟩
    obtain ⟨kp, vp, en, y1, y2, y3, y4, y5, y6⟩ := s3 i hi
    obtain ⟨z1, z2⟩ := q4 i hi
    rw [y1] at z1 z2
    generalize zU : f' i = l' at z1 z2 ⊢
    rcases l' with _ | ⟨W6, _ | ⟨W7, _ | ⟨c3, l3⟩⟩⟩ <;> simp at z1
    have w1 := KM (z2 0 kp W6 rfl rfl) y2
    have w2 := KM (z2 1 vp W7 rfl rfl) y3
    exact ⟨W6, W7, en, rfl, w1.1, w2.1, y4, w1.2 _ y5, w2.2 _ y6⟩
   | _ => exact s2.elim
 ·refine ⟨fun b hb hsb => ?_, fun b hb => hc.ok.lt b (mL b hb), fun b hb => ?_, ?_, hc.ok.known.AU (fun _ _ => rfl) (fun _ hb => .inl hb), fun b hb x y z hx => ?_, fun b i x y j x' y' hx vD => ?_⟩
  rotate_right 2
  ·obtain ⟨id, _, g, sz, n, e, f, base, q2, hm⟩ := zB b hb
   obtain ⟨Ru, _, q, _⟩ := qa x y z b hx
   exact hc.ok.hv b ⟨id, g, sz, n, e, f, base, q2, hm⟩ _ _ _ q
  ·obtain ⟨Xh, k1, q1, _, _, _, _, _, r1⟩ := qa i x y b hx
   obtain ⟨Ru, k2, q2, _, _, _, _, _, r2⟩ := qa j x' y' b vD
   obtain ⟨e1, e2, e3⟩ := hc.ok.hh b _ _ _ _ _ _ q1 q2
   subst e1
   exact ⟨uy hk r1 k1 r2 k2, e2, e3⟩
  ·rcases hsb with hsb | ⟨Ru, g2, qy, n2, e2, f2, aaq, hnk, h1, h2⟩
   ·exact hc.ok.apart b (mL b hb) hsb
   ·rcases hb with hb | ⟨x, y, z, hb⟩
    ·obtain ⟨id, Zx, g, sz, n, e, f, base, q2, hm⟩ := zB b hb
     rcases h2 with h2 | ⟨i, j, h2⟩
     ·have := hc.ok.inj id Ru _ _ _ _ _ _ _ _ _ _ _ _ _ q2 h1 hm h2
      subst this
      exact hnk Zx
     ·exact hc.ok.hv b ⟨id, g, sz, n, e, f, base, q2, hm⟩ _ _ _ h2
    ·obtain ⟨id, Zx, q, _⟩ := qa x y z b hb
     rcases h2 with h2 | ⟨i, j, h2⟩
     ·exact hc.ok.hv b ⟨Ru, g2, qy, n2, e2, f2, aaq, h1, h2⟩ _ _ _ q
     ·obtain ⟨e1, _, _⟩ := hc.ok.hh b _ _ _ _ _ _ q h2
      subst e1
      exact hnk (ael Zx)
  ·rcases hs b hb with h1 | h1
   ·exact hc.ok.slt b h1
   ·exact hc.ok.lt b h1
  ·intro i j gi P1 ni ei fi gj pI nj ej fj b o o' hi hj p9 oH
   rcases back i gi P1 ni ei fi hi with ⟨_, q3⟩ | ⟨Xh, g1, f1, q1, ⟨nn1, q2, _⟩, q3, _⟩
   ·rw [q3] at p9; cases p9
   rcases back j gj pI nj ej fj hj with ⟨_, r3⟩ | ⟨Ru, g2, f2, r1, ⟨nn2, r2, _⟩, r3, _⟩
   ·rw [r3] at oH; cases oH
   rw [q3] at p9
   rw [r3] at oH
   have := hc.ok.inj Xh Ru _ _ _ _ _ _ _ _ _ _ _ _ _ q2 r2 p9 oH
   subst this
   exact uy hk hi q1 hj r1
structure Start where
 μ : Mu
 h : List aj
 S : Nat → Prop
 w : World
 nt : Nat
theorem SW {C : Start} (hc : Core μ h S w) (hf : Fr C.μ C.h C.S C.w μ h S w) (hh : pO h η k C.h.length 0 η k) (hk : oc (nR η k) = true) (hm : C.h.length ≤ k.length) :
  Fr C.μ C.h C.S C.w (lG μ h k) η (Dp μ h k S) w := by
 obtain ⟨hlen, cO⟩ := nd η k 0 hh
 obtain ⟨_, mL, hs⟩ := xh hc hh hk
 have idx : ∀ id, id < C.h.length → ∃ o id', η[id]? = some o ∧ k[id]? = some id' ∧ vH h η k C.h.length o id id' := fun id hid => by
  have bP : id < η.length := by omega
  obtain ⟨id', r1, r2⟩ := cO id _ (As bP)
  rw [No] at r2
  exact ⟨_, id', As bP, r1, r2⟩
 refine ⟨by omega, hf.blocks, fun b hb => .inl (hf.sub b hb), fun b hb => ?_, fun b hb => hf.own b (mL b hb), hf.size, hf.os, hf.tape, hf.output, fun id g0 Rv n0 e0 f0 h0 => ?_, fun id h0 => ?_, hf.bN, fun id g0 Rv n0 e0 f0 b base h0 Zp nX => ?_, hf.u5⟩
 rotate_right
 ·have hid : id < C.h.length := (so.1 h0).1
  obtain ⟨o, id', q1, q2, q3⟩ := idx id hid
  obtain ⟨r1, r2⟩ := hf.maps id g0 Rv n0 e0 f0 b base h0 Zp nX
  refine ⟨r1, ?_⟩
  rw [q1]
  unfold vH at q3
  cases o with
  | dead => exact .inl rfl
  | row g' bV n' e' f' =>
   cases ho : h[id']? with
   | none => rw [ho] at q3; exact absurd q3.1 agi
   | some o2 =>
    cases o2 with
    | dead => rw [ho] at q3; exact q3.elim
    | row g sz n e f =>
     rw [ho] at q3
     obtain ⟨s1, rfl, s2, rfl, _⟩ := q3
     obtain ⟨rfl, rfl⟩ := s1 hid
     obtain rfl := s2.resolve_right (fun hx => absurd hx.1 agi)
     rw [ho] at r2
     rcases r2 with r2 | ⟨_, r3⟩
     ·cases r2
     ·exact .inr ⟨⟨_, _, _, _, _, rfl⟩, (se q2 ho).trans r3⟩
 ·rcases hs b hb with h1 | h1
  ·exact hf.new b h1
  ·rcases hf.own b h1 with h2 | h2
   ·exact .inr (.inl h2)
   ·exact .inr (.inr h2)
 ·have hid : id < C.h.length := (so.1 h0).1
  obtain ⟨o, id', q1, q2, q3⟩ := idx id hid
  have hg := hf.Bl id g0 Rv n0 e0 f0 h0
  rw [q1]
  unfold vH at q3
  cases o with
  | dead => trivial
  | row g' bV n' e' f' =>
   cases ho : h[id']? with
   | none => rw [ho] at q3; exact absurd q3.1 agi
   | some o2 =>
    cases o2 with
    | dead => rw [ho] at q3; exact q3.elim
    | row g sz n e f =>
     rw [ho] at q3
     obtain ⟨r1, rfl, r2, rfl, _⟩ := q3
     obtain ⟨rfl, rfl⟩ := r1 hid
     obtain rfl := r2.resolve_right (fun hx => absurd hx.1 agi)
     rw [ho] at hg
     refine ⟨hg.1, fun he => ?_⟩
     obtain ⟨s1, s2, s3, s4⟩ := hg.2 he
     exact ⟨by rw [se q2 ho]; exact s1, s2, s3, s4⟩
 ·have hid : id < C.h.length := (so.1 h0).1
  obtain ⟨o, id', q1, q2, q3⟩ := idx id hid
  have hd := hf.dead id h0
  rw [q1]
  unfold vH at q3
  cases o with
  | dead => rfl
  | row g' bV n' e' f' =>
   cases ho : h[id']? with
   | none => rw [ho] at q3; exact absurd q3.1 agi
   | some o2 =>
    cases o2 with
    | dead => rw [ho] at q3; exact q3.elim
    | row g sz n e f =>
     rw [ho] at q3
     obtain ⟨rfl, rfl⟩ := q3.1 hid
     rw [ho] at hd
     cases hd
structure mP (C : Start) (μ : Mu) (h : List aj) (S : Nat → Prop) (env : Env) (a : Act) (w : World) : Prop where
 core : Core μ h S w
 fr : Fr C.μ C.h C.S C.w μ h S w
 tmps : ∀ t, bG μ h S w (env t) (a.tmps.getD t undef)
 size : a.tmps.size = C.nt
 Xi : ∀ t, C.nt ≤ t → env t = .jc
 defers : a.defers = []
variable {C : Start} {env : Env} {a : Act}
theorem BC (env : Env) (t : Nat) (v : PV) : qb env t v t = v := by simp [qb]
theorem Fj (env : Env) {t j : Nat} (v : PV) (hj : j ≠ t) : qb env t v j = env j := by
 unfold qb
 have : Nat.beq j t = false := by
  cases hb : Nat.beq j t with
  | true => exact (hj (Is hb)).elim
  | false => rfl
 rw [this]; rfl
def mR (nt : Nat) (o : Oper) : Bool := match o.dst with | some t => Nat.blt t nt | none => true
theorem mP.put (hs : mP C μ h S env a w) {μ' : Mu} {h' : List aj} {S' : Nat → Prop} {w' : World} (hf : Fr μ h S w μ' h' S' w') (hc : Core μ' h' S' w') {dst : Option Nat} {v : PV} {val : Value} (hv : bG μ' h' S' w' v val)
  (hd : ∀ t, dst = some t → t < C.nt) : mP C μ' h' S' (dx env dst v) (a.put dst val) w' := by
 refine ⟨hc, hs.fr.trans hf, fun t => ?_, ?_, fun t ht => ?_, ?_⟩
 ·cases dst with
  | none => exact (hs.tmps t).fr hf hs.core.ok
  | some d =>
   have O6 := hd d rfl
   by_cases htd : t = d
   ·subst htd
    show bG μ' h' S' w' (qb env t v t) _
    rw [BC]
    have : ((a.put (some t) val).tmps).getD t undef = val := by
     have bP : t < a.tmps.size := by rw [hs.size]; exact O6
     simp [Act.put, bP]
    rw [this]; exact hv
   ·show bG μ' h' S' w' (qb env d v t) _
    rw [Fj env v htd]
    have : ((a.put (some d) val).tmps).getD t undef = a.tmps.getD t undef := by
     simp [Act.put, Array.getElem?_setIfInBounds_ne (Ne.symm htd)]
    rw [this]; exact (hs.tmps t).fr hf hs.core.ok
 ·cases dst with
  | none => exact hs.size
  | some d => simp [Act.put, hs.size]
 ·cases dst with
  | none => exact hs.Xi t ht
  | some d =>
   have O6 := hd d rfl
   show qb env d v t = _
   rw [Fj env v agi]
   exact hs.Xi t ht
 ·cases dst with
  | none => exact hs.defers
  | some d => exact hs.defers
theorem mP.BD (hs : mP C μ h S env a w) {t : Nat} {b : Bool} (he : env t = .bool b) : mP C μ h S (qb env t (.bool b)) a w := by
 have : qb env t (.bool b) = env := by
  funext j
  by_cases hj : j = t
  ·subst hj; rw [BC, he]
  ·rw [Fj env _ hj]
 rw [this]; exact hs
def yj (C : Start) (Q : XQ) : Exit → Act → World → Prop := fun e a w => ∃ μ h S env, mP C μ h S env a w ∧ Q e env h
theorem vI (hs : mP C μ h S env a w) {ops : Array Oper} {j t : Nat} {b : Bool} (hj : (ops.toList[j]?).bind (·.dst) = some t) (he : env t = .bool b) : yielded ops a.tmps j = some b := by
 have hv := hs.tmps t
 rw [he] at hv
 have hv := hv.mD
 have bP : t < a.tmps.size := by
  rcases aeK t a.tmps.size with h1 | h1
  ·exact h1
  ·rw [hs.Xi t (by rw [← hs.size]; exact h1)] at he; cases he
 unfold yielded
 rw [aew] at hj
 rw [hj]
 simp only [Option.bind_some]
 have : a.tmps[t]? = some (.bool b) := by
  rw [aev bP]
  simp [bP] at hv
  rw [hv]
 rw [this]
theorem vJ : bG μ h S w (.dG []) undef := ⟨#[], rfl, rfl, fun j pv hj => by simp at hj⟩
theorem sf (hs : mP C μ h S env a w) {ops : Array Oper} {j t : Nat} (hj : (ops.toList[j]?).bind (·.dst) = some t) (he : env t = .dG []) : yielded ops a.tmps j = none := by
 have hv := hs.tmps t
 rw [he] at hv
 obtain ⟨vs, hv, _⟩ := hv
 unfold yielded
 rw [aew] at hj
 rw [hj]
 simp only [Option.bind_some]
 rcases aeK t a.tmps.size with h1 | h1
 ·have : a.tmps[t]? = some (.tuple vs) := by
   rw [aev h1]
   simp [h1] at hv
   rw [hv]
  rw [this]
 ·rw [Array.getElem?_eq_none h1]
theorem vK {K : Env → List aj → Prop} (all : List Oper) (o : Oper) (rest : List Oper) (env : Env) (h : List aj) {j : Nat} {want : Bool} (hg : o.guard = some (j, want)) :
  qP P T all K (o :: rest) env h = (match (all[j]?).bind (·.dst) with
     | some t => match env t with
      | .bool b => eH b
        (match (generalizing := false) want with
         | true => pop P T o.op (qb env t (.bool true)) h (fun v h' => qP P T all K rest (dx (qb env t (.bool true)) o.dst v) h')
         | false => qP P T all K rest (dx (qb env t (.bool true)) o.dst (.dG [])) h)
        (match (generalizing := false) want with
         | true => qP P T all K rest (dx (qb env t (.bool false)) o.dst (.dG [])) h
         | false => pop P T o.op (qb env t (.bool false)) h (fun v h' => qP P T all K rest (dx (qb env t (.bool false)) o.dst v) h'))
      | .dG [] => qP P T all K rest (dx env o.dst (.dG [])) h
      | _ => False
     | none => False) := by
 obtain ⟨dst, op, ty, pos, after, guard⟩ := o
 have hg : guard = some (j, want) := hg
 rw [hg]
 rfl
theorem vL (hT : di P T) (ops : Array Oper) {K : Env → List aj → Prop} {Q : Exit → Act → World → Prop} (hK : ∀ env h a w μ S, K env h → mP C μ h S env a w → Q .normal a w) :
  ∀ (l : List Oper) (env : Env) (h : List aj) (a : Act) (w : World) (μ : Mu) (S : Nat → Prop), qP P T ops.toList K l env h → (∀ o ∈ l, mR C.nt o = true) → mP C μ h S env a w → wpList P ops Q l a w
 | [], env, h, a, w, μ, S, hp, _, hs => hK env h a w μ S hp hs
 | o :: rest, env, h, a, w, μ, S, hp, hd, hs => by
  have Rw : ∀ t, o.dst = some t → t < C.nt := fun t ht => by
   have := hd o agk
   unfold mR at this
   rw [ht] at this
   simpa using this
  have Xj : ∀ o ∈ rest, mR C.nt o = true := fun o ho => hd o (by simp [ho])
  have run : ∀ env', mP C μ h S env' a w → pop P T o.op env' h (fun v h' => qP P T ops.toList K rest (dx env' o.dst v) h') → o.wp P a w (wpList P ops Q rest) Q := fun env' j8 yP => by
   obtain ⟨dst, op, ty, pos, after, guard⟩ := o
   refine Dm (env := env') hT j8.core j8.tmps yP _ _ fun v val h' μ' S' w' Rx hv hc hf => ?_
   exact vL hT ops hK rest _ h' _ w' μ' S' Rx Xj (j8.put hf hc hv Rw)
  have skip : ∀ env', mP C μ h S env' a w → qP P T ops.toList K rest (dx env' o.dst (.dG [])) h → wpList P ops Q rest (a.put o.dst undef) w := fun env' j8 yP =>
   vL hT ops hK rest _ h _ w μ S yP Xj (j8.put Fr.refl j8.core vJ Rw)
  unfold wpList
  cases hg : o.guard with
  | none =>
   have hp : pop P T o.op env h (fun v h' => qP P T ops.toList K rest (dx env o.dst v) h') := by
    obtain ⟨dst, op, ty, pos, after, guard⟩ := o
    subst hg
    exact hp
   rw [if_pos (by simp [Region.wanted, hg])]
   exact .inl (run env hs hp)
  | some p =>
   obtain ⟨j, want⟩ := p
   rw [vK ops.toList o rest env h hg] at hp
   split at hp
   ·rename_i t hj
    split at hp
    ·rename_i b he
     have hy := vI hs hj he
     obtain ⟨ht, hf⟩ := kz hp
     have j8 := hs.BD he
     cases b with
     | true =>
      have hp := ht rfl
      cases want with
      | true => rw [if_pos ags]; exact .inl (run _ j8 hp)
      | false => rw [if_neg ags]; exact skip _ j8 hp
     | false =>
      have hp := hf rfl
      cases want with
      | true => rw [if_neg ags]; exact skip _ j8 hp
      | false => rw [if_pos ags]; exact .inl (run _ j8 hp)
    ·rename_i he
     rw [if_neg (by simp [Region.wanted, hg, sf hs hj he])]
     exact skip _ hs hp
    ·exact afL
   ·exact afL
end
section
variable {P : Program} {T : oO} {μ : Mu} {h h1 : List aj} {S : Nat → Prop} {w : World}
theorem KN (hc : Core μ h S w) (hx : Hs h h1) : ∃ μ', Fr μ h S w μ' h1 S w ∧ Core μ' h1 S w := by
 obtain ⟨id, g, sz, n, e, f, i, j, bV, n', e', f', F, f1, hh, hi, hj, xL, Kb, rfl⟩ := hx
 have hid : id < h.length := (so.1 hh).1
 obtain ⟨hl, bp⟩ := hc.heap id g sz n e f hh
 have Jn : j < sz := by rw [← hl i hi]; exact (so.1 hj).1
 have xJ : ∃ b0 yZ HH v, μ id = some (b0, yZ) ∧ w.heap[b0]? = some (.cells HH e (0, 0)) ∧ yZ + n * sz ≤ HH.size ∧ HH[yZ + i * sz + j]? = some v ∧ lE S w (.aY bV n' e' f' F) v ∧
   ∀ (i j : Nat) (pv : PV), i < n → (f i)[j]? = some pv → ∃ v : Value, HH[yZ + i * sz + j]? = some v ∧ oG μ h S w pv v := by
  cases iH : μ id with
  | none => rw [iH] at bp; have bp : n = 0 := bp; omega
  | some p =>
   obtain ⟨b0, yZ⟩ := p
   rw [iH] at bp
   obtain ⟨o, q1, q2⟩ := bp
   cases o with
   | cells HH e0 z =>
    obtain ⟨rfl, rfl, q3, q4⟩ := q2
    obtain ⟨v, r1, r2⟩ := q4 i j _ hi hj
    exact ⟨b0, yZ, HH, v, rfl, q1, q3, r1, r2, q4⟩
   | map es c =>
    obtain ⟨kp, vp, en, y1, y2, y3, _⟩ := q2.2 i hi
    rw [y1] at hj
    match j, hj with
    | 0, hj => simp at hj; rw [hj] at y2; cases y2
    | 1, hj => simp at hj; rw [hj] at y3; cases y3
    | y + 2, hj => simp at hj
   | _ => exact q2.elim
 obtain ⟨b0, yZ, HH, v, iH, hb0, vC, KY, htv, kB⟩ := xJ
 have O7 : ∀ b, F b → dL h id i j b := fun b hb => ⟨_, _, _, _, _, _, _, _, _, _, hh, hi, hj, hb⟩
 obtain ⟨p, hp⟩ : ∃ p : Option (Nat × Nat), match p with
   | none => v = .slice none 0 0 ∧ n' = 0
   | some (b, off) => F b ∧ ∃ (c : Nat) (a : Addr) (cur : Array Value), w.heap[b]? = some (.cells cur e' (0, 0)) ∧ v = .slice (some a) n' c ∧ n' ≤ c ∧ (0 < c → a = ⟨b, off, none⟩) ∧ off + c * bV ≤ cur.size ∧ (∀ i, i < n' → (f' i).length = bV) ∧
     (∀ (i j : Nat) (pv : PV), i < n' → (f' i)[j]? = some pv → ∃ u, cur[off + i * bV + j]? = some u ∧ (aT S w pv u ∨ ∃ s2 n2 e2 f2 F2, pv = .aY s2 n2 e2 f2 F2 ∧ lE S w (.aY s2 n2 e2 f2 F2) u)) ∧
     (∀ (i j qy n2 : Nat) (e2 : TypeId) (f2 : Nat → List PV) (F2 : Nat → Prop), i < n' → (f' i)[j]? = some (.aY qy n2 e2 f2 F2) → ∀ b', F2 b' → F b' ∧ b' ≠ b) ∧
     (∀ (i j qy n2 : Nat) (e2 : TypeId) (f2 : Nat → List PV) (F2 : Nat → Prop) (i' j' sz3 n3 : Nat) (e3 : TypeId) (f3 : Nat → List PV) (F3 : Nat → Prop), i < n' → (f' i)[j]? = some (.aY qy n2 e2 f2 F2) → i' < n' → (f' i')[j']? = some (.aY sz3 n3 e3 f3 F3) → ∀ b', F2 b' → F3 b' → i = i' ∧ j = j') := by
  cases htv with
  | nil _ _ _ _ hF => exact ⟨none, rfl, rfl⟩
  | HF _ _ _ _ _ b off c a cur vf hF hb hlen Sw ha ig hcel mX wQ CM HG =>
   refine ⟨some (b, off), hF, c, a, cur, hb, rfl, Sw, ha, ig, hlen, fun i j pv hi hj => ⟨_, hcel i j pv hi hj, ?_⟩, CM, HG⟩
   rcases mX i j pv hi hj with q | ⟨s2, n2, e2, f2, F2, rfl⟩
   ·exact .inl q
   ·exact .inr ⟨s2, n2, e2, f2, F2, rfl, wQ i j _ _ _ _ _ hi hj⟩
 have hpF : ∀ b off, p = some (b, off) → F b := fun b off hq => by subst hq; exact hp.1
 generalize Ry : h.set id (aj.row g sz n e f1) ++ [aj.row 0 bV n' e' f'] = h1
 have adX : h1.length = h.length + 1 := by rw [← Ry]; simp
 have vM : h1[id]? = some (aj.row g sz n e f1) := by rw [← Ry, aeA (by simpa using hid)]; simp [hid]
 have zT : h1[h.length]? = some (aj.row 0 bV n' e' f') := by rw [← Ry, aeu agk]; simp
 have cQ : ∀ k, k ≠ id → k < h.length → h1[k]? = h[k]? := fun k hk QJ => by rw [← Ry, aeA (by simpa using QJ), aeJ (Ne.symm hk)]
 have inv : ∀ k o, h1[k]? = some o → (k = id ∧ o = aj.row g sz n e f1) ∨ (k = h.length ∧ o = aj.row 0 bV n' e' f') ∨ (k ≠ id ∧ k < h.length ∧ h[k]? = some o) := fun k o hk => by
  by_cases h2 : k = id
  ·subst h2; rw [vM] at hk; injection hk with hk; exact .inl ⟨rfl, hk.symm⟩
  ·by_cases h3 : k = h.length
   ·subst h3; rw [zT] at hk; injection hk with hk; exact .inr (.inl ⟨rfl, hk.symm⟩)
   ·have h4 : k < h.length := by have := (so.1 hk).1; omega
    rw [cQ k h2 h4] at hk
    exact .inr (.inr ⟨h2, h4, hk⟩)
 let μ1 : Mu := qs μ h.length p
 have BE : μ1 h.length = p := bY _ _ _
 have oa : ∀ k, k < h.length → μ1 k = μ k := fun k hk => eJ μ _ agi
 have BF : ∀ x y pv, x < n → (f1 x)[y]? = some pv → ((x, y) = (i, j) ∧ pv = .own h.length 0 0 n') ∨ ((x, y) ≠ (i, j) ∧ (f x)[y]? = some pv) := fun x y pv hx hy => by
  by_cases hxi : x = i
  ·subst hxi
   rw [xL, List.getElem?_set] at hy
   by_cases hyj : j = y
   ·subst hyj
    rw [if_pos rfl, if_pos (by rw [hl x hx]; exact Jn)] at hy
    injection hy with hy
    exact .inl ⟨rfl, hy.symm⟩
   ·rw [if_neg hyj] at hy
    exact .inr ⟨fun q => hyj (by injection q with _ q; exact q.symm), hy⟩
  ·rw [Kb x hx hxi] at hy
   exact .inr ⟨fun q => hxi (by injection q), hy⟩
 have fY : ∀ k x y b, dL h1 k x y b → (k ≠ h.length ∧ ¬ (k = id ∧ x = i ∧ y = j) ∧ dL h k x y b) ∨ (k = h.length ∧ dL h id i j b ∧ ∃ qy n2 e2 f2 F2, x < n' ∧ (f' x)[y]? = some (.aY qy n2 e2 f2 F2) ∧ F2 b) := fun k x y b ⟨g2, s2, n2, e2, f2, s3, n3, e3, f3, F3, q1, q2, q3, q4⟩ => by
  rcases inv k _ q1 with ⟨rfl, ho⟩ | ⟨rfl, ho⟩ | ⟨h2, h3, h4⟩
  ·injection ho with a1 a2 a3 a4 a5
   subst a1 a2 a3 a4 a5
   rcases BF x y _ q2 q3 with ⟨_, hq⟩ | ⟨rZ, hq⟩
   ·cases hq
   ·exact .inl ⟨by omega, fun ⟨_, b1, b2⟩ => rZ (by rw [b1, b2]), _, _, _, _, _, _, _, _, _, _, hh, q2, hq, q4⟩
  ·injection ho with a1 a2 a3 a4 a5
   subst a1 a2 a3 a4 a5
   refine .inr ⟨rfl, O7 b ?_, _, _, _, _, _, q2, q3, q4⟩
   cases p with
   | none => have := hp.2; omega
   | some pp =>
    obtain ⟨pb, Wj⟩ := pp
    obtain ⟨_, _, _, _, _, _, _, _, _, _, _, hs, _⟩ := hp
    exact (hs x y _ _ _ _ _ q2 q3 b q4).1
  ·exact .inl ⟨by omega, fun ⟨b1, _⟩ => h2 b1, _, _, _, _, _, _, _, _, _, _, h4, q2, q3, q4⟩
 have BG : ∀ b, B5 μ1 h1 b → B5 μ h b ∨ (∃ off, p = some (b, off)) := fun b ⟨k, g2, s2, n2, e2, f2, base, q1, q2⟩ => by
  rcases inv k _ q1 with ⟨rfl, ho⟩ | ⟨rfl, ho⟩ | ⟨h2, h3, h4⟩
  ·rw [oa k hid] at q2
   exact .inl ⟨k, _, _, _, _, _, _, hh, q2⟩
  ·rw [BE] at q2
   exact .inr ⟨base, q2⟩
  ·rw [oa k h3] at q2
   exact .inl ⟨k, _, _, _, _, _, _, h4, q2⟩
 have mL : ∀ b, cz μ1 h1 b → cz μ h b := fun b hb => by
  rcases hb with hb | ⟨k, x, y, hb⟩
  ·rcases BG b hb with q | ⟨off, q⟩
   ·exact .inl q
   ·exact .inr ⟨_, _, _, O7 b (hpF b off q)⟩
  ·rcases fY k x y b hb with ⟨_, _, q⟩ | ⟨_, q, _⟩
   ·exact .inr ⟨_, _, _, q⟩
   ·exact .inr ⟨_, _, _, q⟩
 have lr : Fr μ h S w μ1 h1 S w := by
  refine ⟨by omega, fun _ _ _ => rfl, fun _ hb => hb, fun _ hb => .inl hb, fun b hb => .inl (mL b hb), aeb _, rfl, rfl, rfl, fun k g2 s2 n2 e2 f2 hk => ?_, fun k hk => ?_, fun _ _ _ hc => hc, fun k g2 s2 n2 e2 f2 b base hk hm nX => ⟨nX, .inr ⟨?_, ?_⟩⟩, fun _ _ _ _ _ nX => nX⟩
  ·have QJ := (so.1 hk).1
   by_cases xZ : k = id
   ·subst xZ
    rw [hh] at hk
    injection hk with hk
    injection hk with a1 a2 a3 a4 a5
    subst a1 a2 a3 a4 a5
    rw [vM]
    exact ⟨aeb _, fun _ => ⟨oa _ hid, rfl, rfl, rfl⟩⟩
   ·rw [cQ k xZ QJ, hk]
    exact ⟨aeb _, fun _ => ⟨oa k QJ, rfl, rfl, rfl⟩⟩
  ·have QJ := (so.1 hk).1
   rw [cQ k (by rintro rfl; rw [hh] at hk; cases hk) QJ]; exact hk
  ·have QJ := (so.1 hk).1
   by_cases xZ : k = id
   ·subst xZ; exact ⟨_, _, _, _, _, vM⟩
   ·exact ⟨_, _, _, _, _, (cQ k xZ QJ).trans hk⟩
  ·rw [oa k (so.1 hk).1]; exact hm
 refine ⟨μ1, lr, ⟨fun k g2 s2 n2 e2 f2 hk => ?_, ⟨fun b hb => hc.ok.apart b (mL b hb), fun b hb => hc.ok.lt b (mL b hb), hc.ok.slt, ?_, hc.ok.known, fun b hb k x y hx => ?_, fun b k x y k' x' y' hx vD => ?_⟩⟩⟩
 ·rcases inv k _ hk with ⟨rfl, ho⟩ | ⟨rfl, ho⟩ | ⟨h2, h3, h4⟩
  ·injection ho with a1 a2 a3 a4 a5
   subst a1 a2 a3 a4 a5
   refine ⟨fun x hx => ?_, ?_⟩
   ·by_cases hxi : x = i
    ·subst hxi; rw [xL, afa]; exact hl x hx
    ·rw [Kb x hx hxi]; exact hl x hx
   ·rw [oa k hid, iH]
    refine ⟨_, hb0, rfl, rfl, vC, fun x y pv hx hy => ?_⟩
    rcases BF x y pv hx hy with ⟨hq, rfl⟩ | ⟨_, hq⟩
    ·injection hq with r1 r2
     subst r1 r2
     refine ⟨v, KY, ?_⟩
     show bE μ1 h1 w h.length 0 0 n' v
     unfold bE
     rw [zT]
     cases p with
     | none =>
      obtain ⟨rfl, rfl⟩ := hp
      exact ⟨⟨_, _, _, rfl⟩, aeb _, fun _ => ⟨aeb _, by rw [BE]⟩⟩
     | some pp =>
      obtain ⟨pb, Wj⟩ := pp
      obtain ⟨_, c, a, cur, t1, rfl, t3, t4, t5, _⟩ := hp
      refine ⟨⟨_, _, _, rfl⟩, aeb _, fun _ => ⟨by omega, ?_⟩⟩
      rw [BE]
      exact ⟨a, c, rfl, t3, fun h0 => by rw [t4 h0]; simp, cur, e', t1, by rw [No]; exact t5⟩
    ·obtain ⟨u, r1, r2⟩ := kB x y pv hx hq
     exact ⟨u, r1, r2.fr lr hc.ok (fun _ _ _ _ _ _ _ _ => rfl)⟩
  ·injection ho with a1 a2 a3 a4 a5
   subst a1 a2 a3 a4 a5
   rw [BE]
   cases p with
   | none => exact ⟨fun x hx => by have := hp.2; omega, hp.2⟩
   | some pp =>
    obtain ⟨pb, Wj⟩ := pp
    obtain ⟨_, c, a, cur, t1, _, t3, _, t5, t6, t7, _, _⟩ := hp
    refine ⟨t6, _, t1, rfl, rfl, aeQ (Nat.add_le_add_left (aer _ t3) _) t5, fun x y pv hx hy => ?_⟩
    obtain ⟨u, r1, r2⟩ := t7 x y pv hx hy
    refine ⟨u, r1, ?_⟩
    rcases r2 with r2 | ⟨_, _, _, _, _, rfl, r2⟩
    ·exact (bR.j5 r2).k (aT.no r2)
    ·exact r2
  ·obtain ⟨q1, q2⟩ := hc.heap k _ _ _ _ _ h4
   refine ⟨q1, ?_⟩
   rw [oa k h3]
   cases hm : μ k with
   | none => rw [hm] at q2; exact q2
   | some pp =>
    obtain ⟨b, base⟩ := pp
    rw [hm] at q2
    obtain ⟨o, r1, r2⟩ := q2
    exact ⟨o, r1, r2.mono (fun _ _ _ _ _ _ hr => hr.fr lr hc.ok (fun _ _ _ _ _ _ _ _ => rfl))⟩
 ·intro a b ga sa na ea fa gb sb nb eb fb HF o o' ha hb hma nX
  have B1 : ∀ k gk sk nk ek fk oo, h1[k]? = some (aj.row gk sk nk ek fk) → μ1 k = some (HF, oo) → (k = h.length ∧ F HF) ∨ (k < h.length ∧ ∃ gk sk nk ek fk, h[k]? = some (aj.row gk sk nk ek fk) ∧ μ k = some (HF, oo)) := fun k gk sk nk ek fk oo hk hm => by
   rcases inv k _ hk with ⟨rfl, ho⟩ | ⟨rfl, ho⟩ | ⟨h2, h3, h4⟩
   ·rw [oa k hid] at hm; exact .inr ⟨hid, _, _, _, _, _, hh, hm⟩
   ·rw [BE] at hm; exact .inl ⟨rfl, hpF _ _ hm⟩
   ·rw [oa k h3] at hm; exact .inr ⟨h3, _, _, _, _, _, h4, hm⟩
  rcases B1 a _ _ _ _ _ _ ha hma with ⟨rfl, q⟩ | ⟨q0, _, _, _, _, _, q1, q2⟩
  ·rcases B1 b _ _ _ _ _ _ hb nX with ⟨rfl, _⟩ | ⟨r0, _, _, _, _, _, r1, r2⟩
   ·rfl
   ·exact absurd (O7 HF q) (hc.ok.hv HF ⟨b, _, _, _, _, _, _, r1, r2⟩ _ _ _)
  ·rcases B1 b _ _ _ _ _ _ hb nX with ⟨rfl, r⟩ | ⟨r0, _, _, _, _, _, r1, r2⟩
   ·exact absurd (O7 HF r) (hc.ok.hv HF ⟨a, _, _, _, _, _, _, q1, q2⟩ _ _ _)
   ·exact hc.ok.inj a b _ _ _ _ _ _ _ _ _ _ _ _ _ q1 r1 q2 r2
 ·rcases BG b hb with q | ⟨off, q⟩
  ·rcases fY k x y b hx with ⟨_, _, r⟩ | ⟨_, r, _⟩
   ·exact hc.ok.hv b q _ _ _ r
   ·exact hc.ok.hv b q _ _ _ r
  ·rcases fY k x y b hx with ⟨_, rZ, r⟩ | ⟨_, r, qy, n2, e2, f2, F2, r1, r2, r3⟩
   ·exact rZ (hc.ok.hh b _ _ _ _ _ _ r (O7 b (hpF b off q)))
   ·subst q
    obtain ⟨_, _, _, _, _, _, _, _, _, _, _, hs, _⟩ := hp
    exact (hs x y _ _ _ _ _ r1 r2 b r3).2 rfl
 ·rcases fY k x y b hx with ⟨k1, rZ, r⟩ | ⟨rfl, r, qy, n2, e2, f2, F2, r1, r2, r3⟩
  ·rcases fY k' x' y' b vD with ⟨k2, hne', r'⟩ | ⟨rfl, r', _⟩
   ·exact hc.ok.hh b _ _ _ _ _ _ r r'
   ·exact absurd (hc.ok.hh b _ _ _ _ _ _ r r') rZ
  ·rcases fY k' x' y' b vD with ⟨k2, hne', r'⟩ | ⟨rfl, r', sz3, n3, e3, f3, F3, t1, t2, t3⟩
   ·exact absurd (hc.ok.hh b _ _ _ _ _ _ r' r) hne'
   ·cases p with
    | none => have := hp.2; omega
    | some pp =>
     obtain ⟨pb, Wj⟩ := pp
     obtain ⟨_, _, _, _, _, _, _, _, _, _, _, _, hd⟩ := hp
     obtain ⟨e1, e2⟩ := hd x y _ _ _ _ _ x' y' _ _ _ _ _ r1 r2 t1 t2 b r3 t3
     exact ⟨rfl, e1, e2⟩
def FAb (μ : Mu) (h : List aj) (sub : Nat) (b : Nat) : Prop := (∃ g sz n e f base, h[sub]? = some (aj.row g sz n e f) ∧ μ sub = some (b, base)) ∨ ∃ x y, dL h sub x y b
theorem KO (hc : Core μ h S w) {id i j sub : Nat} (hx : Ht h id i j sub (FAb μ h sub) h1) : Fr μ h S w μ h1 S w ∧ Core μ h1 S w := by
 obtain ⟨g, sz, n, e, f, g2, qy, n2, e2, f2, f1, hh, hs, rZ, hi, hj, hpu, xL, Kb, rfl⟩ := hx
 have hid : id < h.length := (so.1 hh).1
 have H2 : sub < h.length := (so.1 hs).1
 obtain ⟨hl, bp⟩ := hc.heap id g sz n e f hh
 have Jn : j < sz := by rw [← hl i hi]; exact (so.1 hj).1
 generalize hFF : FAb μ h sub = F
 rw [hFF] at xL
 have aar : ∀ b, F b → cz μ h b := fun b hb => by
  rw [← hFF] at hb
  rcases hb with ⟨g, sz, n, e, f, base, q1, q2⟩ | ⟨x, y, q⟩
  ·exact .inl ⟨sub, _, _, _, _, _, _, q1, q2⟩
  ·exact .inr ⟨_, _, _, q⟩
 generalize Ry : (h.set id (aj.row g sz n e f1)).set sub aj.dead = h1
 have vM : h1[id]? = some (aj.row g sz n e f1) := by rw [← Ry, aeJ (Ne.symm rZ)]; simp [hid]
 have zX : h1[sub]? = some aj.dead := by rw [← Ry, aff (by simpa using H2)]
 have cQ : ∀ k, k ≠ id → k ≠ sub → h1[k]? = h[k]? := fun k h2 h3 => by rw [← Ry, aeJ (Ne.symm h3), aeJ (Ne.symm h2)]
 have inv : ∀ k gk sk nk ek fk, h1[k]? = some (aj.row gk sk nk ek fk) → k ≠ sub ∧ ((k = id ∧ aj.row gk sk nk ek fk = aj.row g sz n e f1) ∨ (k ≠ id ∧ h[k]? = some (aj.row gk sk nk ek fk))) := fun k gk sk nk ek fk hk => by
  have h3 : k ≠ sub := by rintro rfl; rw [zX] at hk; cases hk
  refine ⟨h3, ?_⟩
  by_cases h2 : k = id
  ·subst h2; rw [vM] at hk; injection hk with hk; exact .inl ⟨rfl, hk.symm⟩
  ·rw [cQ k h2 h3] at hk; exact .inr ⟨h2, hk⟩
 have BF : ∀ x y pv, x < n → (f1 x)[y]? = some pv → ((x = i ∧ y = j) ∧ pv = .aY qy n2 e2 f2 F) ∨ (¬ (x = i ∧ y = j) ∧ (f x)[y]? = some pv) := fun x y pv hx hy => by
  by_cases hxi : x = i
  ·subst hxi
   rw [xL, List.getElem?_set] at hy
   by_cases hyj : j = y
   ·subst hyj
    rw [if_pos rfl, if_pos (by rw [hl x hx]; exact Jn)] at hy
    injection hy with hy
    exact .inl ⟨⟨rfl, rfl⟩, hy.symm⟩
   ·rw [if_neg hyj] at hy
    exact .inr ⟨fun q => hyj q.2.symm, hy⟩
  ·rw [Kb x hx hxi] at hy
   exact .inr ⟨fun q => hxi q.1, hy⟩
 have fY : ∀ k x y b, dL h1 k x y b → (k = id ∧ x = i ∧ y = j ∧ F b) ∨ (k ≠ sub ∧ ¬ (k = id ∧ x = i ∧ y = j) ∧ dL h k x y b) := fun k x y b ⟨g3, s3, n3, e3, f3, s4, n4, e4, f4, F4, q1, q2, q3, q4⟩ => by
  obtain ⟨h3, hq⟩ := inv k _ _ _ _ _ q1
  rcases hq with ⟨rfl, ho⟩ | ⟨h2, h4⟩
  ·injection ho with a1 a2 a3 a4 a5
   subst a1 a2 a3 a4 a5
   rcases BF x y _ q2 q3 with ⟨⟨r1, r2⟩, hq⟩ | ⟨hne', hq⟩
   ·injection hq with _ _ _ _ hq
    subst hq
    exact .inl ⟨rfl, r1, r2, q4⟩
   ·exact .inr ⟨h3, fun ⟨_, b1⟩ => hne' b1, _, _, _, _, _, _, _, _, _, _, hh, q2, hq, q4⟩
  ·exact .inr ⟨h3, fun ⟨b1, _⟩ => h2 b1, _, _, _, _, _, _, _, _, _, _, h4, q2, q3, q4⟩
 have BG : ∀ b, B5 μ h1 b → ∃ k gk sk nk ek fk base, k ≠ sub ∧ h[k]? = some (aj.row gk sk nk ek fk) ∧ μ k = some (b, base) := fun b ⟨k, g3, s3, n3, e3, f3, base, q1, q2⟩ => by
  obtain ⟨h3, hq⟩ := inv k _ _ _ _ _ q1
  rcases hq with ⟨rfl, ho⟩ | ⟨h2, h4⟩
  ·exact ⟨k, _, _, _, _, _, _, h3, hh, q2⟩
  ·exact ⟨k, _, _, _, _, _, _, h3, h4, q2⟩
 have mL : ∀ b, cz μ h1 b → cz μ h b := fun b hb => by
  rcases hb with hb | ⟨k, x, y, hb⟩
  ·obtain ⟨k, _, _, _, _, _, _, _, q1, q2⟩ := BG b hb
   exact .inl ⟨k, _, _, _, _, _, _, q1, q2⟩
  ·rcases fY k x y b hb with ⟨_, _, _, q⟩ | ⟨_, _, q⟩
   ·exact aar b q
   ·exact .inr ⟨_, _, _, q⟩
 have lr : Fr μ h S w μ h1 S w := by
  refine ⟨by rw [← Ry]; simp, fun _ _ _ => rfl, fun _ hb => hb, fun _ hb => .inl hb, fun b hb => .inl (mL b hb), aeb _, rfl, rfl, rfl, fun k g3 s3 n3 e3 f3 hk => ?_, fun k hk => ?_, fun _ _ _ hc => hc, fun k g3 s3 n3 e3 f3 b base hk hm nX => ⟨nX, ?_⟩, fun _ _ _ _ _ nX => nX⟩
  ·by_cases xZ : k = id
   ·subst xZ
    rw [hh] at hk
    injection hk with hk
    injection hk with a1 a2 a3 a4 a5
    subst a1 a2 a3 a4 a5
    rw [vM]
    exact agf
   ·by_cases Mj : k = sub
    ·subst Mj; rw [zX]; trivial
    ·rw [cQ k xZ Mj, hk]
     exact agf
  ·by_cases Mj : k = sub
   ·subst Mj; exact zX
   ·rw [cQ k (by rintro rfl; rw [hh] at hk; cases hk) Mj]; exact hk
  ·by_cases Mj : k = sub
   ·subst Mj; exact .inl zX
   ·refine .inr ⟨?_, hm⟩
    by_cases xZ : k = id
    ·subst xZ; exact ⟨_, _, _, _, _, vM⟩
    ·exact ⟨_, _, _, _, _, (cQ k xZ Mj).trans hk⟩
 have SX : ∀ k x y b, k ≠ sub → dL h k x y b → ¬ F b := fun k x y b hk hx hF => by
  rw [← hFF] at hF
  rcases hF with ⟨_, _, _, _, _, _, q1, q2⟩ | ⟨_, _, q⟩
  ·exact hc.ok.hv b ⟨sub, _, _, _, _, _, _, q1, q2⟩ _ _ _ hx
  ·exact hk (hc.ok.hh b _ _ _ _ _ _ hx q).1
 refine ⟨lr, ⟨fun k g3 s3 n3 e3 f3 hk => ?_, ⟨fun b hb => hc.ok.apart b (mL b hb), fun b hb => hc.ok.lt b (mL b hb), hc.ok.slt, ?_, hc.ok.known, fun b hb k x y hx => ?_, fun b k x y k' x' y' hx vD => ?_⟩⟩⟩
 ·obtain ⟨h3, hq⟩ := inv k _ _ _ _ _ hk
  rcases hq with ⟨rfl, ho⟩ | ⟨h2, h4⟩
  ·injection ho with a1 a2 a3 a4 a5
   subst a1 a2 a3 a4 a5
   refine ⟨fun x hx => ?_, ?_⟩
   ·by_cases hxi : x = i
    ·subst hxi; rw [xL, afa]; exact hl x hx
    ·rw [Kb x hx hxi]; exact hl x hx
   ·cases iH : μ k with
    | none => rw [iH] at bp; exact bp
    | some p =>
     obtain ⟨b0, yZ⟩ := p
     rw [iH] at bp
     obtain ⟨o, q1, q2⟩ := bp
     refine ⟨o, q1, ?_⟩
     cases o with
     | cells HH e0 z =>
      obtain ⟨rfl, rfl, q3, q4⟩ := q2
      refine ⟨rfl, rfl, q3, fun x y pv hx hy => ?_⟩
      rcases BF x y pv hx hy with ⟨⟨rfl, rfl⟩, rfl⟩ | ⟨_, hq⟩
      ·obtain ⟨v, r1, r2⟩ := q4 x y _ hx hj
       refine ⟨v, r1, ?_⟩
       show lE S w (.aY qy n2 e2 f2 F) v
       have r2 : bE μ h w sub g2 0 n2 v := r2
       unfold bE at r2
       rw [hs] at r2
       obtain ⟨_, _, r3⟩ := r2
       obtain ⟨_, r4⟩ := r3 rfl
       obtain ⟨s1, s2⟩ := hc.heap sub _ _ _ _ _ hs
       cases hms : μ sub with
       | none =>
        rw [hms] at r4 s2
        have s2 : n2 = 0 := s2
        have r4 : v = .slice none 0 0 := r4
        subst s2 r4
        refine .nil _ _ _ _ (fun b hb => ?_)
        rw [← hFF] at hb
        rcases hb with ⟨_, _, _, _, _, _, _, t2⟩ | ⟨x', y', t1, t2, t3, t4, t5, t6, t7, t8, t9, t10, u1, u2, u3, u4⟩
        ·rw [hms] at t2; cases t2
        ·rw [hs] at u1
         injection u1 with u1
         injection u1 with _ _ u1 _ _
         omega
       | some p =>
        obtain ⟨b, base⟩ := p
        rw [hms] at r4 s2
        obtain ⟨a, cap, rfl, t2, t3, t4⟩ := r4
        obtain ⟨cur, u1, u2, u3⟩ := cp.cells t4 s2
        have ig : base + cap * qy ≤ cur.size := by
         obtain ⟨Ju, e', p1, p2⟩ := t4
         rw [u1] at p1
         injection p1 with p1
         injection p1 with p1 _ _
         subst p1
         rw [No] at p2
         exact p2
        have vis : B5 μ h b := ⟨sub, _, _, _, _, _, _, hs, hms⟩
        have Wk : ∀ (x y s5 n5 : Nat) (e5 : TypeId) (f5 : Nat → List PV) (F5 : Nat → Prop), x < n2 → (f2 x)[y]? = some (.aY s5 n5 e5 f5 F5) → ∀ b', F5 b' → dL h sub x y b' := fun x y s5 n5 e5 f5 F5 hx hy b' nO => ⟨_, _, _, _, _, _, _, _, _, _, hs, hx, hy, nO⟩
        refine .HF qy n2 e2 f2 F b base cap a cur (fun x y => (cur[base + x * qy + y]?).getD undef) (by rw [← hFF]; exact .inl ⟨_, _, _, _, _, _, hs, hms⟩) u1 s1 t2 (fun h0 => by rw [t3 h0]; simp) ig (fun x y pv hx hy => ?_) (fun x y pv hx hy => ?_) (fun x y s5 n5 e5 f5 F5 hx hy => ?_) (fun x y s5 n5 e5 f5 F5 hx hy b' nO => ?_) (fun x y s5 n5 e5 f5 F5 x' y' s6 n6 e6 f6 F6 hx hy vD hy' b' nO oM => ?_)
        ·obtain ⟨u, w1, _⟩ := u3 x y pv hx hy
         rw [w1]; rfl
        ·obtain ⟨u, w1, w2⟩ := u3 x y pv hx hy
         rw [w1]
         rcases hpu x hx pv (ael hy) with z1 | z1
         ·exact .inl (uw z1 w2.c)
         ·exact .inr (by cases pv <;> first | exact ⟨_, _, _, _, _, rfl⟩ | cases z1)
        ·obtain ⟨u, w1, w2⟩ := u3 x y _ hx hy
         rw [w1]
         exact w2
        ·have hq := Wk x y s5 n5 e5 f5 F5 hx hy b' nO
         refine ⟨by rw [← hFF]; exact .inr ⟨_, _, hq⟩, ?_⟩
         rintro rfl
         exact hc.ok.hv b' vis _ _ _ hq
        ·exact (hc.ok.hh b' _ _ _ _ _ _ (Wk x y s5 n5 e5 f5 F5 hx hy b' nO) (Wk x' y' s6 n6 e6 f6 F6 vD hy' b' oM)).2
      ·obtain ⟨u, r1, r2⟩ := q4 x y pv hx hq
       exact ⟨u, r1, r2.fr lr hc.ok (fun _ _ _ _ _ _ _ _ => rfl)⟩
     | map es c =>
      obtain ⟨kp, vp, en, y1, y2, y3, _⟩ := q2.2 i hi
      rw [y1] at hj
      match j, hj with
      | 0, hj => simp at hj; rw [hj] at y2; cases y2
      | 1, hj => simp at hj; rw [hj] at y3; cases y3
      | y + 2, hj => simp at hj
     | _ => exact q2.elim
  ·obtain ⟨q1, q2⟩ := hc.heap k _ _ _ _ _ h4
   refine ⟨q1, ?_⟩
   cases hm : μ k with
   | none => rw [hm] at q2; exact q2
   | some pp =>
    obtain ⟨b, base⟩ := pp
    rw [hm] at q2
    obtain ⟨o, r1, r2⟩ := q2
    exact ⟨o, r1, r2.mono (fun _ _ _ _ _ _ hr => hr.fr lr hc.ok (fun _ _ _ _ _ _ _ _ => rfl))⟩
 ·intro a b ga sa na ea fa gb sb nb eb fb HF o o' ha hb hma nX
  have B1 : ∀ k gk sk nk ek fk, h1[k]? = some (aj.row gk sk nk ek fk) → ∃ gk sk nk ek fk, h[k]? = some (aj.row gk sk nk ek fk) := fun k gk sk nk ek fk hk => by
   rcases (inv k _ _ _ _ _ hk).2 with ⟨rfl, _⟩ | ⟨_, q⟩
   ·exact ⟨_, _, _, _, _, hh⟩
   ·exact ⟨_, _, _, _, _, q⟩
  obtain ⟨_, _, _, _, _, q1⟩ := B1 a _ _ _ _ _ ha
  obtain ⟨_, _, _, _, _, q2⟩ := B1 b _ _ _ _ _ hb
  exact hc.ok.inj a b _ _ _ _ _ _ _ _ _ _ _ _ _ q1 q2 hma nX
 ·obtain ⟨k0, _, _, _, _, _, _, q0, q1, q2⟩ := BG b hb
  rcases fY k x y b hx with ⟨_, _, _, q⟩ | ⟨_, _, q⟩
  ·rw [← hFF] at q
   rcases q with ⟨_, _, _, _, _, _, r1, r2⟩ | ⟨_, _, r⟩
   ·exact q0 (hc.ok.inj k0 sub _ _ _ _ _ _ _ _ _ _ _ _ _ q1 r1 q2 r2)
   ·exact hc.ok.hv b ⟨k0, _, _, _, _, _, _, q1, q2⟩ _ _ _ r
  ·exact hc.ok.hv b ⟨k0, _, _, _, _, _, _, q1, q2⟩ _ _ _ q
 ·rcases fY k x y b hx with ⟨rfl, rfl, rfl, q⟩ | ⟨k1, _, q⟩
  ·rcases fY k' x' y' b vD with ⟨rfl, rfl, rfl, _⟩ | ⟨k2, _, r⟩
   ·exact ⟨rfl, rfl, rfl⟩
   ·exact absurd q (SX _ _ _ _ k2 r)
  ·rcases fY k' x' y' b vD with ⟨rfl, rfl, rfl, r⟩ | ⟨k2, _, r⟩
   ·exact absurd r (SX _ _ _ _ k1 q)
   ·exact hc.ok.hh b _ _ _ _ _ _ q r
variable {C : Start} {env : Env} {a : Act}
theorem mP.turn (hs : mP C μ h S env a w) {μ' : Mu} (hf : Fr μ h S w μ' h1 S w) (hc : Core μ' h1 S w) : mP C μ' h1 S env a w :=
 ⟨hc, hs.fr.trans hf, fun t => (hs.tmps t).fr hf hs.core.ok, hs.size, hs.Xi, hs.defers⟩
theorem mP.ex (hs : mP C μ h S env a w) (hx : Hs h h1) : ∃ μ', mP C μ' h1 S env a w := by
 obtain ⟨μ', hf, hc⟩ := KN hs.core hx
 exact ⟨μ', hs.turn hf hc⟩
theorem mP.ab (hs : mP C μ h S env a w) {id i j sub : Nat} {h1 : (Nat → Prop) → List aj} (ha : ∀ F, Ht h id i j sub F (h1 F)) : ∃ F, mP C μ (h1 F) S env a w := by
 obtain ⟨hf, hc⟩ := KO hs.core (ha (FAb μ h sub))
 exact ⟨_, hs.turn hf hc⟩
end
end Go.Am
