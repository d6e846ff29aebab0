/- Texts of the proof, joined and shortened. -/
import Derived.Test.YtalfppmpmnlnlaaGreatDoorPk3
import Derived.Test.YtalfppmpmnlnlaaGreatDoorProg
import Derived.Test.YtalfppmpmnlnlaaGreatDoorShelf
import Derived.WalkKit
import Derived.BigCall
import Derived.DataReads
import Derived.ChangeArms
set_option linter.unusedVariables false
set_option linter.unusedSimpArgs false
namespace Go.Am
open Go Go.RowKit
def look (l : List (Nat × TI)) (t : Nat) : TI := match l with
 | [] => .other
 | (k, ti) :: r => match Nat.beq t k with
  | true => ti
  | false => look r t
def vQ (l : List (Nat × TI)) : pr := ⟨look l⟩
def jY : List Value → List PV → Bool
 | [], [] => true
 | .int k n :: r, .int k' n' :: r' => rh k k' && n == n' && jY r r'
 | .bool b :: r, .bool b' :: r' => b == b' && jY r r'
 | .string s :: r, .str s' :: r' => s.data.toList == s' && jY r r'
 | .slice none 0 0 :: r, .aq :: r' => jY r r'
 | _, _ => false
def sR (P : Program) (t n : Nat) : Bool := match P.info? t with
 | some i => Nat.beq i.size n
 | none => false
def rO (P : Program) : List Field → List (Nat × Nat × Bool) → Bool
 | [], [] => true
 | f :: r, (off, size, ag) :: r' => Nat.beq f.offset off && sR P f.type size && Nat.blt 0 size && (match P.underlying f.type with | some d => ag == BK d | none => false) && rO P r r'
 | _, _ => false
def FE : Value → PV → Bool
 | .int k n, .int k' n' => rh k k' && n == n'
 | .bool b, .bool b' => b == b'
 | .string s, .str s' => s.data.toList == s'
 | _, _ => false
theorem FF {v : Value} {z : PV} (h : FE v z = true) : ri z v ∧ kE z = true ∧ storable z = true := by
 unfold FE at h
 split at h
 ·simp only [so, beq_iff_eq] at h
  obtain ⟨h1, rfl⟩ := h
  obtain rfl := fp h1
  exact ⟨rfl, rfl, rfl⟩
 ·rw [beq_iff_eq] at h; subst h; exact ⟨rfl, rfl, rfl⟩
 ·rw [beq_iff_eq] at h; subst h; exact ⟨rfl, rfl, rfl⟩
 ·cases h
def om (P : Program) (t : Nat) : TI → Bool
 | .int k => (match P.underlying t with | some (.int k') => rh k k' | _ => false) && sR P t 1
 | .bool => (match P.underlying t with | some .bool => true | _ => false) && sR P t 1
 | .str => (match P.underlying t with | some .string => true | _ => false) && sR P t 1
 | .ptr e => (match P.underlying t with | some (.pointer e') => Nat.beq e e' | _ => false) && sR P t 1
 | .slice e sz Oj z => (match P.underlying t with | some (.slice e') => Nat.beq e e' | _ => false) && sR P t 1 && Nat.blt 0 sz && Nat.blt 0 Oj &&
   (match P.info? e with
    | some i => Nat.beq i.size sz && Nat.beq i.bytes Oj && (match i.zero with | some zv => Nat.beq zv.cells.size sz && jY zv.cells.toList z | none => false)
    | none => false)
 | .struct sz fl z => (!(zN z) || Fo P t z) && (match P.underlying t with | some (.struct fs) => rO P fs.toList fl | _ => false) &&
   (match P.info? t with
    | some i => Nat.beq i.size sz && (match i.zero with | some zv => Nat.beq zv.cells.size sz && jY zv.cells.toList z | none => false)
    | none => false)
 | .map k e z => (match P.underlying t with | some (.map k' e') => Nat.beq k k' && Nat.beq e e' | _ => false) && sR P t 1 && (match P.info? e with
   | some i => (match i.zero with | some zv => FE zv z | none => false)
   | none => false)
 | .other => true
def zeroAt (P : Program) (t : Nat) (z : List PV) (n : Nat) : Bool := match P.info? t with
 | some i => match i.zero with
  | some zv => Nat.beq zv.cells.size n && Nat.beq z.length n && jY zv.cells.toList z
  | none => false
 | none => false
def Rk (P : Program) (t : Nat) (ti : TI) : Bool := om P t ti && (match BL ti with | some z => zeroAt P t z (lJ ti) | none => true)
theorem ux : ∀ (vs : List Value) (z : List PV), jY vs z = true → vs.length = z.length ∧ ∀ (j : Nat) (u : Value), vs[j]? = some u → ∃ pv : PV, z[j]? = some pv ∧ u.oneCell' = true ∧ ∀ S w, aV S w pv u := by
 intro vs
 induction vs with
 | nil =>
  intro z hz
  cases z with
  | nil => exact ⟨rfl, fun j u hj => by simp at hj⟩
  | cons a r => simp [jY] at hz
 | cons v vs ih =>
  intro z hz
  cases z with
  | nil => cases v <;> simp [jY] at hz
  | cons p z =>
   have step : ∀ (hz' : jY vs z = true) (Q3 : v.oneCell' = true) (hp : ∀ S w, aV S w p v), (v :: vs).length = (p :: z).length ∧ ∀ (j : Nat) (u : Value), (v :: vs)[j]? = some u → ∃ pv : PV, (p :: z)[j]? = some pv ∧ u.oneCell' = true ∧ ∀ S w, aV S w pv u := by
    intro hz' Q3 hp
    obtain ⟨h1, h2⟩ := ih z hz'
    refine ⟨by simp [h1], fun j u hj => ?_⟩
    cases j with
    | zero => simp at hj; subst hj; exact ⟨p, rfl, Q3, hp⟩
    | succ j => simp at hj; obtain ⟨pv, q1, q2⟩ := h2 j u hj; exact ⟨pv, by simpa using q1, q2⟩
   cases v with
   | int k n =>
    cases p <;> simp [jY] at hz
    obtain ⟨⟨hk, hn⟩, hz⟩ := hz
    have := fp hk
    subst this hn
    exact step hz rfl fun S w => .int _ _
   | bool b =>
    cases p <;> simp [jY] at hz
    obtain ⟨hb, hz⟩ := hz
    subst hb
    exact step hz rfl fun S w => .bool _
   | string s =>
    cases p <;> simp [jY] at hz
    obtain ⟨hs, hz⟩ := hz
    subst hs
    exact step hz rfl fun S w => aV.str _
   | slice a n c =>
    cases a with
    | some a => cases p <;> simp [jY] at hz
    | none =>
     cases n with
     | succ n => cases p <;> simp [jY] at hz
     | zero =>
      cases c with
      | succ c => cases p <;> simp [jY] at hz
      | zero =>
       cases p <;> simp [jY] at hz
       exact step hz rfl fun S w => .aq
   | _ => cases p <;> simp [jY] at hz
theorem ll {P : Program} {t n : Nat} (h : sR P t n = true) : ∃ i, P.info? t = some i ∧ i.size = n := by
 unfold sR at h
 split at h
 ·rename_i i hi; exact ⟨i, hi, adW h⟩
 ·cases h
theorem vR {P : Program} : ∀ (fs : List Field) (fl : List (Nat × Nat × Bool)), rO P fs fl = true → fl.length = fs.length ∧
  ∀ (k : Nat) (off size : Nat) (ag : Bool), fl[k]? = some (off, size, ag) → ∃ f j d, fs[k]? = some f ∧ f.offset = off ∧ P.info? f.type = some j ∧ j.size = size ∧ 0 < size ∧ P.underlying f.type = some d ∧ ag = BK d
 | [], [], _ => ⟨rfl, fun k off size ag hk => by simp at hk⟩
 | [], _ :: _, h => by simp [rO] at h
 | _ :: _, [], h => by simp [rO] at h
 | f :: r, (off, size, ag) :: r', h => by
  simp only [rO, so] at h
  obtain ⟨⟨⟨⟨h1, h2⟩, h3⟩, h4⟩, h5⟩ := h
  obtain ⟨q1, q2⟩ := vR r r' h5
  refine ⟨by simp [q1], fun k Rl Z5 ag' hk => ?_⟩
  cases k with
  | zero =>
   simp at hk
   obtain ⟨rfl, rfl, rfl⟩ := hk
   obtain ⟨j, hj, I8⟩ := ll h2
   cases hu : P.underlying f.type with
   | none => rw [hu] at h4; cases h4
   | some d =>
    rw [hu] at h4
    exact ⟨f, j, d, rfl, adW h1, hj, I8, by simpa using h3, hu, by simpa using h4⟩
  | succ k => exact q2 k Rl Z5 ag' (by simpa using hk)
theorem Hr : ∀ (l : List (Nat × TI)) (t : Nat) (ti : TI), look l t = ti → ti = .other ∨ (t, ti) ∈ l
 | [], t, ti, h => .inl h.symm
 | (k, x) :: r, t, ti, h => by
  unfold look at h
  split at h
  ·rename_i hb
   have := adW hb
   subst this h
   exact .inr ahy
  ·rcases Hr r t ti h with h1 | h1
   ·exact .inl h1
   ·exact .inr (by simp [h1])
theorem Z6 {P : Program} {l : List (Nat × TI)} (hl : l.all (fun p => Rk P p.1 p.2) = true) : dJ P (vQ l) := by
 have Z7 : ∀ t ti, (vQ l).get t = ti → ti ≠ .other → Rk P t ti = true := fun t ti ht hn => by
  rcases Hr l t ti ht with h1 | h1
  ·exact (hn h1).elim
  ·exact (aeb.1 hl) _ h1
 have all : ∀ t ti, (vQ l).get t = ti → ti ≠ .other → om P t ti = true := fun t ti ht hn => by
  have := Z7 t ti ht hn
  simp only [Rk, so] at this
  exact this.1
 have zero : ∀ t z, BL ((vQ l).get t) = some z → ∃ i zv, P.info? t = some i ∧ i.zero = some zv ∧ zv.cells.size = lJ ((vQ l).get t) ∧ z.length = lJ ((vQ l).get t) ∧
   ∀ (j : Nat) (u : Value), zv.cells[j]? = some u → ∃ pv : PV, z[j]? = some pv ∧ u.oneCell' = true ∧ ∀ S w, aV S w pv u := fun t z hz => by
  have := Z7 t _ rfl (by intro h0; rw [h0] at hz; cases hz)
  simp only [Rk, so] at this
  have := this.2
  rw [hz] at this
  simp only [zeroAt] at this
  split at this
  ·rename_i i hi
   split at this
   ·rename_i zv hzv
    simp only [so] at this
    obtain ⟨⟨h1, h2⟩, h3⟩ := this
    obtain ⟨_, r2⟩ := ux _ _ h3
    exact ⟨i, zv, hi, hzv, adW h1, adW h2, fun j u hj => r2 j u ahI⟩
   ·cases this
  ·cases this
 have one : ∀ t, lJ ((vQ l).get t) = 1 → (∀ sz fl z, (vQ l).get t ≠ .struct sz fl z) → ∃ i, P.info? t = some i ∧ i.size = 1 := fun t h1 h2 => by
  cases ht : (vQ l).get t with
  | other => rw [ht] at h1; cases h1
  | struct sz fl z => exact (h2 _ _ _ ht).elim
  | int k => have := all t _ ht ahy; simp only [om, so] at this; exact ll this.2
  | bool => have := all t _ ht ahy; simp only [om, so] at this; exact ll this.2
  | str => have := all t _ ht ahy; simp only [om, so] at this; exact ll this.2
  | ptr e => have := all t _ ht ahy; simp only [om, so] at this; exact ll this.2
  | map k e z => have := all t _ ht ahy; simp only [om, so] at this; exact ll this.1.2
  | slice e sz b z => have := all t _ ht ahy; simp only [om, so] at this; exact ll this.1.1.1.2
 refine ⟨fun t sz fl z ht hz => by
   have := all t _ ht ahy
   simp only [om, so, aeD, aex] at this
   rcases this.1.1 with h | h
   ·rw [hz] at h; cases h
   ·exact h, fun t k ht => ?_, fun t ht => ?_, fun t ht => ?_, fun t e ht => ?_, fun t e sz b z ht => ?_, fun t k e z ht => ?_, fun t e sz b z ht => ?_, one, zero, fun t sz fl z ht => ?_⟩
 ·have := all t _ ht ahy
  simp only [om, so] at this
  have := this.1
  split at this
  ·rename_i k' hu; rw [hu, fp this]
  ·cases this
 ·have := all t _ ht ahy
  simp only [om, so] at this
  have := this.1
  split at this
  ·assumption
  ·cases this
 ·have := all t _ ht ahy
  simp only [om, so] at this
  have := this.1
  split at this
  ·assumption
  ·cases this
 ·have := all t _ ht ahy
  simp only [om, so] at this
  have := this.1
  split at this
  ·rename_i e' hu; rw [hu, adW this]
  ·cases this
 ·have := all t _ ht ahy
  simp only [om, so] at this
  obtain ⟨⟨⟨⟨h1, h2⟩, h3⟩, h4⟩, h5⟩ := this
  refine ⟨?_, by simpa using h3, ?_⟩
  ·split at h1
   ·rename_i e' hu; rw [hu, adW h1]
   ·cases h1
  ·split at h5
   ·rename_i i hi
    simp only [so] at h5
    obtain ⟨⟨q1, q2⟩, q3⟩ := h5
    split at q3
    ·rename_i zv hz
     simp only [so] at q3
     obtain ⟨r1, r2⟩ := ux _ _ q3.2
     have e1 := adW q3.1
     refine ⟨i, zv, hi, adW q1, adW q2, hz, e1, ?_, fun j u hj => r2 j u ahI⟩
     rw [← r1, ← e1]; simp
    ·cases q3
   ·cases h5
 ·have := all t _ ht ahy
  simp only [om, so] at this
  obtain ⟨⟨h1, _⟩, h3⟩ := this
  refine ⟨?_, ?_⟩
  ·split at h1
   ·rename_i k' e' hu
    simp only [so] at h1
    rw [hu, adW h1.1, adW h1.2]
   ·cases h1
  ·split at h3
   ·rename_i i hi
    split at h3
    ·rename_i zv hz
     exact ⟨i, zv, hi, hz, FF h3⟩
    ·cases h3
   ·cases h3
 ·have := all t _ ht ahy
  simp only [om, so] at this
  simpa using this.1.2
 ·have := all t _ ht ahy
  simp only [om, so] at this
  obtain ⟨⟨_, h1⟩, h2⟩ := this
  split at h1
  ·rename_i fs hu
   obtain ⟨q1, q2⟩ := vR _ _ h1
   split at h2
   ·rename_i i hi
    simp only [so] at h2
    obtain ⟨r1, r2⟩ := h2
    split at r2
    ·rename_i zv hz
     simp only [so] at r2
     obtain ⟨s1, s2⟩ := ux _ _ r2.2
     have e1 := adW r2.1
     refine ⟨fs, i, hu, hi, adW r1, by simpa using q1, ⟨zv, hz, e1, by rw [← s1, ← e1]; simp, fun j u hj => s2 j u ahI⟩, fun k off size ag hk => ?_⟩
     obtain ⟨f, j, d, t1, t2⟩ := q2 k off size ag hk
     exact ⟨f, j, d, by simpa using t1, t2⟩
    ·cases r2
   ·cases h2
  ·cases h1
theorem LJ {S : Nat → Prop} {w : World} {k : IntKind} {a : Option Addr} {len cap : Nat} {zs : List Int}
  (h : (a = none ∧ len = 0 ∧ cap = 0 ∧ zs = []) ∨ ∃ x, a = some x ∧ len ≤ cap ∧ cap ≤ maxLen ∧ zs.length = cap ∧ (∀ i, i < zs.length → w.cell? (x.add i) = some (.int k (zs.getD i 0))) ∧ ∀ n ∈ zs, (Lit.int k n).wf = true)
  (hS : ∀ b, b < w.heap.size → S b) : aV S w (.gz 1 len (fun i => [.int k (zs.getD i 0)])) (.slice a len cap) := by
 rcases h with ⟨rfl, rfl, rfl, rfl⟩ | ⟨x, rfl, hl, hm, hz, bw, hwz⟩
 ·exact .qj _ _ _ _
 ·rcases aeJ len with h0 | h0
  ·subst h0; exact .qj _ _ _ _
  ·obtain ⟨b, off, spot⟩ := x
   have hc0 := bw 0 ahw
   have Z8 : spot = none := by simpa [Addr.add] using World.cell?_spot hc0
   subst Z8
   have hb : b < w.heap.size := by
    have := World.block_lt_of_cell? _ _ hc0
    simpa [Addr.add] using this
   refine .gz 1 len _ b off cap (fun i _ => .int k (zs.getD i 0)) (hS b hb) (fun _ _ => rfl) hl (fun i j pv hi hj => ?_) (fun i j pv hi hj => ?_)
   ·have rk : j = 0 := by
     have := (An.1 hj).1
     simp at this
     exact this
    subst rk
    have := bw i ahw
    rw [Addr.add_lit] at this
    rw [Nat.mul_one, aeO]
    exact this
   ·have rk : j = 0 := by
     have := (An.1 hj).1
     simp at this
     exact this
    subst rk
    simp at hj
    subst hj
    exact .int _ _
theorem Rj {P : Program} {f : FuncId} {args : List PV} {vs : Array Value} {w : World} (Wm : LI (fun b => b < w.heap.size) w) (hA : ACall P f args [] (fun res _ => res = .bool true)) (jl : vs.size = args.length)
  (ha : ∀ (j : Nat) (pv : PV), args[j]? = some pv → ∃ v, vs[j]? = some v ∧ aV (fun b => b < w.heap.size) w pv v) :
  Calls P f vs w fun e w' => e = .returned (.bool true) ∧ Below w.heap.size w w' := by
 refine (hA.2 w vs (fun _ => none) (fun b => b < w.heap.size) (fun id g sz n e f hid => by simp at hid) ⟨fun b hb => absurd hb kx, fun b hb => absurd hb kx, fun b hb => hb, fun i j g sz n e f g' cf n' e' f' b o o' hi => by simp at hi, Wm, fun b _ x y z hx => va hx, fun b _ _ _ _ _ _ hx => absurd hx va⟩ jl (fun j pv hj => ?_)).mono ?_
 ·obtain ⟨v, h1, h2⟩ := ha j pv hj
  refine ⟨v, h1, ?_⟩
  have hc : bZ (fun _ => none) [] (fun b => b < w.heap.size) w pv v := bZ.kG h2
  cases pv with
  | agg cs => exact (show False from hc).elim
  | fu cs => exact (show False from hc).elim
  | iZ => trivial
  | _ => exact hc
 ·rintro e w' ⟨v, res, h', μ', S', rfl, rfl, hv, hH, hM, hF⟩
  refine ⟨by rw [hv.mZ], hF.os, hF.tape, hF.output, hF.size, fun b hb => hF.blocks b hb kx⟩
section
variable {h η : List ak} {k : List Nat}
theorem Fz.int_eq {k' : IntKind} {n n' : Int} (he : n = n') : Fz h η k (.int k' n) (.int k' n') := by subst he; exact .int _ _
theorem Fz.KE {b b' : Bool} (he : b = b') : Fz h η k (.bool b) (.bool b') := by subst he; exact .bool _
theorem Fz.OK {s s' : List UInt8} (he : s = s') : Fz h η k (.str s) (.str s') := by subst he; exact .str _
theorem Fz.OL {id g sz n off len cf yU : Nat} {e : TypeId} {f f' : Nat → List PV} (hk : id ∉ k) (ho : h[id]? = some (ak.row g sz n e f)) (h1 : sz = cf) (h2 : len = yU) (hp : ∀ i, i < yU → (f' i).all bG = true)
  (hf : ∀ i, i < yU → wE h η k (f (off + i)) (f' i)) : Fz h η k (.own id g off len) (.gz cf yU f') := by
 subst h1 h2
 exact .Z9 id g sz n off len e f f' hk ho (fun i hi => (wE.get _ _ (hf i hi)).1) (fun i j pv hi hj => (aeb.1 (hp i hi)) pv (aef hj)) (fun i j pv fR hi h1 h2 _ => (wE.get _ _ (hf i hi)).2 j pv fR h1 h2)
theorem Fz.bD {cs Dm : List PV} (hl : wE h η k cs Dm) : Fz h η k (.agg cs) (.agg Dm) := .agg _ _ (wE.get _ _ hl).1 (wE.get _ _ hl).2
theorem Fz.bq {cs Dm : List PV} (hl : wE h η k cs Dm) : Fz h η k (.fu cs) (.fu Dm) := .fu _ _ (wE.get _ _ hl).1 (wE.get _ _ hl).2
theorem OM {α : Type} {i l : Nat} {a b : α} (vb : i < l) : (bif Nat.blt i l then a else b) = a := by
 have hb : Nat.blt i l = true := by simpa using vb
 rw [hb]; rfl
theorem ON {α : Type} {i l : Nat} {a b : α} (vb : l ≤ i) : (bif Nat.blt i l then a else b) = b := by
 have hb : Nat.blt i l = false := by
  cases hh : Nat.blt i l with
  | true =>
   have : i < l := by simpa using hh
   omega
  | false => rfl
 rw [hb]; rfl
end
theorem Av {x : Int} (h1 : -9223372036854775808 ≤ x) (h2 : x ≤ 9223372036854775807) : IntKind.i64.wrap x = x := by rw [IntKind.wrap_i64]; omega
theorem ACall.aaa {P : Program} {f : FuncId} {args jn : List PV} {R : PV → List ak → Prop} (hA : ACall P f jn [] R) (h : List ak) (hz : wE h [] [] args jn) (hn : jn.all lK = true)
  (DW : ∀ r0 h0, R r0 h0 → DX r0 = true ∧ ∀ o ∈ h0, OO o) :
  ACall P f args h (fun res h' => ∃ r0 h0, R r0 h0 ∧ res = oL h.length r0 ∧ h' = h ++ h0.map (fL h.length)) := by
 obtain ⟨h1, h2⟩ := wE.get _ _ hz
 exact hA.snap h h1 (fun j pv fR q1 q2 => ⟨h2 j pv fR q1 q2, (aeb.1 hn) fR (aef q2)⟩) (fun r0 h0 hR => ⟨(DW r0 h0 hR).1, fun o ho => ((DW r0 h0 hR).2 o ho).p⟩)
theorem ACall.aab {P : Program} {f : FuncId} {args jn : List PV} {R : PV → List ak → Prop} (hA : ACall P f jn [] R) (h : List ak) (hz : wE h [] [] args jn) (hn : jn.all lK = true)
  (DW : ∀ r0 h0, R r0 h0 → DX r0 = true ∧ ∀ o ∈ h0, xJ o) :
  ACall P f args h (fun res h' => ∃ r0 h0, R r0 h0 ∧ res = oL h.length r0 ∧ h' = h ++ h0.map (fL h.length)) := by
 obtain ⟨h1, h2⟩ := wE.get _ _ hz
 exact hA.snap h h1 (fun j pv fR q1 q2 => ⟨h2 j pv fR q1 q2, (aeb.1 hn) fR (aef q2)⟩) DW
theorem Fz.snap {h : List ak} {id g sz n off len cf yU : Nat} {e : TypeId} {f f' : Nat → List PV} (ho : h[id]? = some (ak.row g sz n e f)) (h1 : sz = cf) (h2 : len = yU) (hp : ∀ i, i < yU → (f' i).all bG = true)
  (hf : ∀ i, i < yU → wE h [] [] (f (off + i)) (f' i)) : Fz h [] [] (.own id g off len) (.gz cf yU f') := .OL ahy ho h1 h2 hp hf
theorem Wn {w : World} {k : IntKind} {a : Option Addr} {len cap : Nat} {zs : List Int}
  (h : (a = none ∧ len = 0 ∧ cap = 0 ∧ zs = []) ∨ ∃ x, a = some x ∧ len ≤ cap ∧ cap ≤ maxLen ∧ zs.length = cap ∧ (∀ i, i < zs.length → w.cell? (x.add i) = some (.int k (zs.getD i 0))) ∧ ∀ n ∈ zs, (Lit.int k n).wf = true) :
  ∀ i, (Lit.int k (zs.getD i 0)).wf = true := by
 intro i
 have h0 : (Lit.int k 0).wf = true := by cases k <;> decide
 rcases h with ⟨_, _, _, rfl⟩ | ⟨x, _, _, _, _, _, hwz⟩
 ·simpa using h0
 ·rcases aeE i zs.length with hi | hi
  ·rw [adY, Is hi]
   exact hwz _ (aee hi)
  ·rw [adY, aev hi]
   exact h0
theorem OP {w : World} {a : Option Addr} {len cap : Nat} {zs : List Int}
  (h : (a = none ∧ len = 0 ∧ cap = 0 ∧ zs = []) ∨ ∃ x, a = some x ∧ len ≤ cap ∧ cap ≤ maxLen ∧ zs.length = cap ∧ (∀ i, i < zs.length → w.cell? (x.add i) = some (.int .u8 (zs.getD i 0))) ∧ ∀ n ∈ zs, (Lit.int .u8 n).wf = true) :
  ∀ i, 0 ≤ zs.getD i 0 ∧ zs.getD i 0 ≤ 255 := by
 intro i
 have := Wn h i
 have h2 : IntKind.u8.min = 0 ∧ IntKind.u8.max = 255 := by decide
 simp only [Lit.wf, so, decide_eq_true_eq, h2.1, h2.2] at this
 omega
theorem ACall.heq {P : Program} {f : FuncId} {args : List PV} {h h2 : List ak} {R : PV → List ak → Prop} (hA : ACall P f args h R) (he : eJ h2 h) : ACall P f args h2 R := by
 refine ⟨hA.1, fun w vs μ S hH hM jl ha => ?_⟩
 obtain ⟨hH2, hM2⟩ := he.core ⟨hH, hM⟩
 refine (hA.2 w vs μ S hH2 hM2 jl (fun j pv hj => ?_)).mono ?_
 ·obtain ⟨v, h1, h3⟩ := ha j pv hj
  exact ⟨v, h1, he.Lz h3⟩
 ·rintro e w' ⟨v, res, h', μ', S', rfl, hr, hv, hH', hM', hF⟩
  refine ⟨v, res, h', μ', S', rfl, hr, hv, hH', hM', ⟨by rw [he.len]; exact hF.len, fun b hb ho => hF.blocks b hb (fun hx => ho (he.yR hx)), hF.sub, fun b hb => ?_, fun b hb => ?_, hF.size, hF.os, hF.tape, hF.output, fun id g sz n e f hid => ?_, fun id hid => hF.dead id (he.getD hid), fun b k ho hc => hF.bX b k (he.owned ho) hc, fun id g sz n e f b base hid hm oC => ?_, fun b x y z hx oC => hF.vO b x y z (he.hid hx) oC⟩⟩
  ·rcases hF.new b hb with h1 | h1 | h1
   ·exact .inl h1
   ·exact .inr (.inl (he.yR h1))
   ·exact .inr (.inr h1)
  ·rcases hF.own b hb with h1 | h1
   ·exact .inl (he.yR h1)
   ·exact .inr h1
  ·obtain ⟨f', h1, _⟩ := he.get hid
   exact hF.B4 id g sz n e f' h1
  ·obtain ⟨f', h1, _⟩ := he.get hid
   exact hF.maps id g sz n e f' b base h1 hm oC
abbrev aU := List UInt8
abbrev ai (x : Int) : Int := IntKind.i64.wrap x
theorem bind_some {α β : Type} {x : Option α} {f : α → Option β} {r : β} (h : (x >>= f) = some r) : ∃ a, x = some a ∧ f a = some r := by
 cases x with
 | none => cases h
 | some a => exact ⟨a, rfl, h⟩
def idx {α : Type} [Inhabited α] (l : List α) (i : Int) : Option α := if 0 ≤ i ∧ i < (l.length : Int) then some (l.getD i.toNat default) else none
def oF (s : aU) (i : Int) : Option UInt8 := if 0 ≤ i ∧ i < (s.length : Int) then some (s.getD i.toNat 0) else none
def oG (s : aU) (lo hi : Int) : Option aU := if 0 ≤ lo ∧ lo ≤ hi ∧ hi ≤ (s.length : Int) then some ((s.take hi.toNat).drop lo.toNat) else none
def tm (s : aU) (lo : Int) : Option aU := if 0 ≤ lo ∧ lo ≤ (s.length : Int) then some (s.drop lo.toNat) else none
def IU {α : Type} (s : List α) (lo hi : Int) : Option (List α) := if 0 ≤ lo ∧ lo ≤ hi ∧ hi ≤ (s.length : Int) then some ((s.take hi.toNat).drop lo.toNat) else none
def Se {α : Type} (s : List α) (hi : Int) : Option (List α) := if 0 ≤ hi ∧ hi ≤ (s.length : Int) then some (s.take hi.toNat) else none
def nz (a b : aU) : Option aU := if a.length + b.length ≤ 4611686018427387904 then some (a ++ b) else none
def im {α : Type} (bytes : Nat) (a b : List α) : Option (List α) := if (a.length + b.length) * bytes ≤ 140737488355328 then some (a ++ b) else none
def xc {α : Type} [Inhabited α] (bytes : Nat) (n m : Int) : Option (List α) := if 0 ≤ n ∧ n ≤ m ∧ m ≤ 4611686018427387904 ∧ m.toNat * bytes ≤ 140737488355328 then some (List.replicate n.toNat default) else none
def must (p : Prop) [Decidable p] : Option Unit := if p then some () else none
theorem cR {α : Type} {c : Prop} [Decidable c] {x r : α} (h : (if c then some x else none) = some r) : c ∧ x = r := by
 by_cases hc : c
 ·rw [if_pos hc] at h; exact ⟨hc, aeC h⟩
 ·rw [if_neg hc] at h; cases h
theorem DH {p : Prop} [Decidable p] {u : Unit} (h : must p = some u) : p := (cR h).1
section
variable {α : Type} {x y r : α}
theorem aac {p : Prop} [Decidable p] (hb : decide p = true) (h : (if p then x else y) = r) : x = r := by rw [if_pos (of_decide_eq_true hb)] at h; exact h
theorem aad {p : Prop} [Decidable p] (hb : decide p = false) (h : (if p then x else y) = r) : y = r := by rw [if_neg (of_decide_eq_false hb)] at h; exact h
theorem OQ {β : Type} [BEq β] [LawfulBEq β] {a b : β} [Decidable (a = b)] (hb : (a == b) = true) (h : (if a = b then x else y) = r) : x = r := by rw [if_pos (eq_of_beq hb)] at h; exact h
theorem OR {β : Type} [BEq β] [LawfulBEq β] {a b : β} [Decidable (a = b)] (hb : (a == b) = false) (h : (if a = b then x else y) = r) : y = r := by rw [if_neg (ne_of_beq_false hb)] at h; exact h
theorem aae {β : Type} [BEq β] [LawfulBEq β] {a b : β} [Decidable (a = b)] (hb : (a != b) = true) (h : (if a = b then x else y) = r) : y = r := OR (by simpa [bne] using hb) h
theorem aaf {β : Type} [BEq β] [LawfulBEq β] {a b : β} [Decidable (a = b)] (hb : (a != b) = false) (h : (if a = b then x else y) = r) : x = r := OQ (by simpa [bne] using hb) h
theorem SW {b : Bool} (hb : b = true) (h : (if b = true then x else y) = r) : x = r := by rw [if_pos hb] at h; exact h
theorem SX {b : Bool} (hb : b = false) (h : (if b = true then x else y) = r) : y = r := by rw [if_neg (by rw [hb]; decide)] at h; exact h
end
theorem SY {b : Bool} (h : (!b) = false) : b = true := by cases b <;> simp_all
theorem SZ {b : Bool} (h : (!b) = true) : b = false := by cases b <;> simp_all
theorem OS {T F : Prop} (h : T) : fv true T F := .mk (fun _ => h) (fun h => by cases h)
theorem OT {T F : Prop} (h : F) : fv false T F := .mk (fun h => by cases h) (fun _ => h)
theorem LK {b : Bool} {T F : Prop} (hb : b = true) (h : T) : fv b T F := .mk (fun _ => h) (fun h => by rw [hb] at h; cases h)
theorem LL {b : Bool} {T F : Prop} (hb : b = false) (h : F) : fv b T F := .mk (fun h => by rw [hb] at h; cases h) (fun _ => h)
section
variable {α : Type} {l m : List α} {lo hi : Int}
theorem AS (h : IU l lo hi = some m) : 0 ≤ lo ∧ lo ≤ hi ∧ hi ≤ (l.length : Int) := (cR h).1
theorem Iz (h : Se l hi = some m) : 0 ≤ hi ∧ hi ≤ (l.length : Int) := (cR h).1
theorem eL {b : Nat} {q : List α} (h : im b l m = some q) : (l.length + m.length) * b ≤ 140737488355328 := (cR h).1
theorem dq {b : Nat} {q : List α} (h : im b l m = some q) : q.length = l.length + m.length := by rw [← (cR h).2]; simp
theorem By (h : IU l lo hi = some m) : m.length = hi.toNat - lo.toNat := by
 have hb := AS h
 rw [← (cR h).2]; simp; omega
theorem Us (h : Se l hi = some m) : m.length ≤ l.length := by
 have h1 := (cR h).1
 have h2 := (cR h).2
 subst h2
 rw [aeP]
 exact Nat.min_le_right _ _
theorem E3 (h : Se l hi = some m) : m.length = hi.toNat := by
 have hb := Iz h
 rw [← (cR h).2]; simp; omega
end
def row {α : Type} (c : α → List PV) (l : List α) : Nat → List PV := fun i => (l.map c).getD i []
abbrev sl {α : Type} (sz : Nat) (c : α → List PV) (l : List α) : PV := .gz sz l.length (row c l)
def cI (x : Int) : List PV := [.int .i64 x]
def Wo (k : IntKind) (x : Int) : List PV := [.int k x]
def cB (x : UInt8) : List PV := [.int .u8 x.toNat]
def cT (x : Bool) : List PV := [.bool x]
def cS (x : aU) : List PV := [.str x]
def cL {α : Type} (sz : Nat) (c : α → List PV) (x : List α) : List PV := [sl sz c x]
section
variable {α : Type} {c : α → List PV} {l m : List α} {x x' : α} {i lo hi : Int}
theorem mV (x : Int) : (cI x).all bG = true := rfl
theorem LM (k : IntKind) (x : Int) : (Wo k x).all bG = true := rfl
theorem Kn (x : UInt8) : (cB x).all bG = true := rfl
theorem Rm (x : Bool) : (cT x).all bG = true := rfl
theorem Rn (x : aU) : (cS x).all bG = true := rfl
theorem Ro {β : Type} (sz : Nat) (d : β → List PV) (x : List β) : (cL sz d x).all bG = true := rfl
theorem AI (x : Int) : cB (UInt8.ofNat (IntKind.u8.wrap x).toNat) = [.int .u8 (IntKind.u8.wrap x)] := by
 have h : 0 ≤ IntKind.u8.wrap x ∧ IntKind.u8.wrap x < 256 := by
  have := IntKind.wrap_u8 x
  omega
 unfold cB
 congr 2
 rw [afv]
 omega
theorem lp {k : Nat} (h : k < l.length) : row c l k = c l[k] := by unfold row; simp [adY, h]
theorem ki {k : Nat} (h : l[k]? = some x) : row c l k = c x := by unfold row; simp [adY, h]
theorem lr (hp : ∀ x, (c x).all bG = true) (k : Nat) : (row c l k).all bG = true := by
 by_cases h : k < l.length
 ·rw [lp h]; exact hp _
 ·unfold row; simp [adY, aev (show l.length ≤ k by omega)]
theorem uY {s : aU} {k : Nat} (h : k < s.length) : row cB s k = [.int .u8 (s.getD k 0).toNat] := by
 rw [lp h]; simp [cB, adY, h]
theorem jQ {s : aU} {b : UInt8} (h : oF s i = some b) : 0 ≤ i ∧ i < (s.length : Int) := (cR h).1
theorem jR {s : aU} {b : UInt8} (h : oF s i = some b) : s.getD i.toNat 0 = b := (cR h).2
theorem u0 {s t : aU} (h : oG s lo hi = some t) : 0 ≤ lo ∧ lo ≤ hi ∧ hi ≤ (s.length : Int) := (cR h).1
theorem u6 {s t : aU} (h : oG s lo hi = some t) : (s.take hi.toNat).drop lo.toNat = t := (cR h).2
theorem GY {s t : aU} (h : tm s lo = some t) : 0 ≤ lo ∧ lo ≤ (s.length : Int) := (cR h).1
theorem GZ {s t : aU} (h : tm s lo = some t) : s.drop lo.toNat = t := (cR h).2
theorem fM {s t u : aU} (h : nz s t = some u) : s.length + t.length ≤ 4611686018427387904 := (cR h).1
theorem fN {s t u : aU} (h : nz s t = some u) : s ++ t = u := (cR h).2
theorem GW (h : IU l lo hi = some m) : ∀ i, i < m.length → row c m i = row c l (lo.toNat + i) := fun i Ji => by
 have hl := By h
 have hb := AS h
 have hm : l[lo.toNat + i]? = some m[i] := by
  rw [← Is Ji, ← (cR h).2, aeV, afk, if_pos ahw]
 rw [lp Ji, ki hm]
theorem Rp (h : Se l hi = some m) : ∀ i, i < m.length → row c m i = row c l i := fun i Ji => by
 have hl := E3 h
 have hm : l[i]? = some m[i] := by
  rw [← Is Ji, ← (cR h).2, afk, if_pos ahw]
 rw [lp Ji, ki hm]
def vS (c : α → List PV) (f : Nat → List PV) (off : Nat) (l : List α) : Prop := ∀ i, i < l.length → f (off + i) = row c l i
theorem aS : vS c (row c l) 0 l := fun i _ => by rw [adX]
theorem K9 {f : Nat → List PV} {off : Nat} (hs : vS c f off l) (h : Se l hi = some m) : vS c f off m := fun i Ji => by
 have hb := Iz h
 have hl := E3 h
 rw [Rp h i Ji]; exact hs _ ahw
theorem nY {s : aU} {f : Nat → List PV} {off n : Nat} (hs : vS cB f off s) (hn : s.length = n) : ∀ i, i < n → f (off + i) = [.int .u8 (s.getD i 0).toNat] := fun i hi => by
 subst hn
 rw [hs i hi]; exact uY hi
theorem dB {b : Nat} {q : List α} {f g : Nat → List PV} {off : Nat} (h : im b l m = some q) (hf : vS c f off l) (hg : ∀ i, i < m.length → g i = row c m i) :
  ∀ i, i < q.length → nJ (bif Nat.blt i l.length then f (off + i) else g (i - l.length)) (row c q i) := fun i Ji => by
 have hl := dq h
 have e : q = l ++ m := (cR h).2.symm
 subst e
 by_cases vb : i < l.length
 ·rw [OM vb, hf i vb, lp Ji, lp vb, List.getElem_append_left vb]; exact nJ.refl _
 ·rw [ON ahw, hg _ ahw, lp Ji, lp ahw, afg ahw]; exact nJ.refl _
theorem J7 : ∀ i, i < m.length → row c m i = row c m i := fun _ _ => rfl
theorem jr {f : Nat → List PV} {off : Nat} (hs : vS c f off m) : ∀ i, i < m.length → f (off + i) = row c m i := hs
theorem xk {s : aU} : ∀ i, i < s.length → [PV.int .u8 (s.getD i 0).toNat] = row cB s i := fun i hi => (uY hi).symm
def XB : List (List PV) → List (List PV) → Prop
 | [], [] => True
 | a :: l, b :: r => nJ a b ∧ XB l r
 | _, _ => False
theorem wY {a b lit : List PV} {l r : List (List PV)} (e : b = lit) (h : nJ a lit) (t : XB l r) : XB (a :: l) (b :: r) := ⟨by rw [e]; exact h, t⟩
theorem cD : ∀ {l r : List (List PV)}, l = r → XB l r
 | [], _, rfl => trivial
 | a :: l, _, rfl => ⟨nJ.refl _, cD rfl⟩
theorem KF : ∀ {l r : List (List PV)}, XB l r → ∀ i, nJ (l.getD i []) (r.getD i [])
 | [], [], _, i => by simp; exact trivial
 | a :: l, b :: r, h, 0 => h.1
 | a :: l, b :: r, h, i + 1 => by simpa using KF h.2 i
 | [], _ :: _, h, _ => h.elim
 | _ :: _, [], h, _ => h.elim
theorem de (c : α → List PV) (l : List α) {n : Nat} {cs : List (List PV)} (hn : n = l.length) (h : XB cs (l.map c)) : ∀ i, i < n → nJ (cs.getD i []) (row c l i) := fun i _ => KF h i
theorem sw {k n off : Nat} {c0 cv lit : List PV} (hk : k < l.length) (he : c x' = lit) (hc : nJ (gA c0 off cv) lit) : ∀ j, j < n → nJ (bx (row c l) k (gA c0 off cv) j) (row c (l.set k x') j) := fun j _ => by
 rw [← he] at hc
 unfold row bx
 by_cases hj : j = k
 ·subst hj
  simpa [adY, hk] using hc
 ·have : Nat.beq j k = false := by
   cases hb : Nat.beq j k with
   | false => rfl
   | true => exact absurd (adW hb) hj
  rw [this]
  simp only [cond_false, adY, aem, aeF (aff hj)]
  exact nJ.refl _
theorem ar {c0 cv new : List PV} {off : Nat} {f : Nat → List PV} (h : new = gA c0 off cv) : ∀ j, j < 1 → nJ (bx f 0 (gA c0 off cv) j) ((fun _ => new) j) := fun j hj => by
 obtain rfl : j = 0 := by omega
 subst h
 exact nJ.refl _
end
section
variable {α : Type} [Inhabited α] {c : α → List PV} {l m : List α} {x x' : α} {i lo hi : Int}
theorem aK (h : idx l i = some x) : 0 ≤ i ∧ i < (l.length : Int) := (cR h).1
theorem OU (h : idx l i = some x) : l[i.toNat]? = some x := by
 have hb := aK h
 have hl : i.toNat < l.length := by omega
 rw [← (cR h).2, adY, Is hl]; rfl
theorem kO (h : idx l i = some x) : i.toNat < l.length := by have hb := aK h; omega
theorem aD (h : idx l i = some x) : row c l i.toNat = c x := ki (OU h)
theorem Bl {b : Nat} {n k : Int} {q : List α} (h : xc b n k = some q) : 0 ≤ n ∧ n ≤ k ∧ k ≤ 4611686018427387904 ∧ k.toNat * b ≤ 140737488355328 := (cR h).1
theorem uR {b : Nat} {n k : Int} {q : List α} (h : xc b n k = some q) : q.length = n.toNat := by rw [← (cR h).2]; simp
theorem yC {b : Nat} {n k : Int} {q : List α} {z lit : List PV} (h : xc b n k = some q) (he : c default = lit) (hz : nJ z lit) : ∀ i, i < q.length → nJ z (row c q i) := fun i Ji => by
 have hl := uR h
 rw [ki (x := default) (by rw [← (cR h).2, List.getElem?_replicate, if_pos ahw]), he]
 exact hz
end
section
variable {h η : List ak} {k : List Nat}
theorem AX {pv : PV} (hp : bG pv = true) : Fz h η k pv pv := by
 cases pv with
 | int k n => exact .int _ _
 | bool b => exact .bool _
 | str s => exact .str _
 | aq => exact .aq
 | gz sz n f => exact .gz _ _ _ _ (fun _ _ => rfl)
 | gf cs => exact .gf _
 | fn f => exact .fn _
 | _ => cases hp
theorem lX : ∀ {l : List PV}, l.all bG = true → wE h η k l l
 | [], _ => trivial
 | a :: l, hp => by
  simp only [afb, so] at hp
  exact ⟨AX hp.1, lX hp.2⟩
theorem Wp {cs : List PV} (hp : cs.all bG = true) : Fz h η k (.agg cs) (.agg cs) := .bD (lX hp)
theorem Nb {α : Type} {c : α → List PV} (hp : ∀ x, (c x).all bG = true) {f : Nat → List PV} {m : List α} (hs : vS c f 0 m) : ∀ i, i < m.length → wE h η k (f i) (row c m i) := fun i hi => by
 have h1 := hs i hi
 rw [adX] at h1
 rw [h1]
 exact lX (lr hp i)
def Jr (h η : List ak) (k : List Nat) : List (Nat × Nat) → List (Nat × Nat) → Prop
 | [], [] => True
 | p :: r, p' :: r' => (k[p'.1]? = some p.1 ∧ (∃ sz n e f, h[p.1]? = some (ak.row p.2 sz n e f)) ∧ ∃ sz n e f, η[p'.1]? = some (ak.row p'.2 sz n e f) ∧ 0 < n) ∧ Jr h η k r r'
 | _, _ => False
theorem Jr.get : ∀ (l l' : List (Nat × Nat)), Jr h η k l l' → l'.length = l.length ∧ ∀ (j : Nat) (p p' : Nat × Nat), l[j]? = some p → l'[j]? = some p' →
  k[p'.1]? = some p.1 ∧ (∃ sz n e f, h[p.1]? = some (ak.row p.2 sz n e f)) ∧ ∃ sz n e f, η[p'.1]? = some (ak.row p'.2 sz n e f) ∧ 0 < n
 | [], [], _ => ⟨rfl, fun j p p' hj _ => by simp at hj⟩
 | [], _ :: _, hh => hh.elim
 | _ :: _, [], hh => hh.elim
 | q :: r, q' :: r', hh => by
  obtain ⟨h1, h2⟩ := hh
  obtain ⟨q1, q2⟩ := Jr.get r r' h2
  refine ⟨by simp [q1], fun j p p' hj Hc => ?_⟩
  cases j with
  | zero =>
   simp at hj Hc
   subst hj Hc
   exact h1
  | succ j => exact q2 j p p' ahI (by simpa using Hc)
theorem Fz.Dz {f : Nat} {bX xK : List (Nat × Nat)} (hh : Jr h η k bX xK) : Fz h η k (.oP f bX) (.oP f xK) := .oP f bX xK (Jr.get _ _ hh).1 (Jr.get _ _ hh).2
theorem OV {α : Type} {c : α → List PV} (hp : ∀ x, (c x).all bG = true) {id g sz n off : Nat} {e : TypeId} {f : Nat → List PV} {l : List α} (hk : id ∉ k) (ho : h[id]? = some (ak.row g sz n e f)) (hs : vS c f off l) :
  Fz h η k (.own id g off l.length) (sl sz c l) :=
 .OL hk ho rfl rfl (fun i hi => lr hp i) (fun i hi => by rw [hs i hi]; exact lX (lr hp i))
theorem Rq {α : Type} {c : α → List PV} (hp : ∀ x, (c x).all bG = true) {id g sz n off len : Nat} {e : TypeId} {f : Nat → List PV} {l : List α} (hk : id ∉ k) (ho : h[id]? = some (ak.row g sz n e f)) (hs : vS c f off l) (hl : len = l.length) :
  Fz h η k (.own id g off len) (sl sz c l) := by subst hl; exact OV hp hk ho hs
end
theorem BD {α : Type} {c : α → List PV} (hp : ∀ x, (c x).all bG = true) (N g sz n : Nat) (e : TypeId) (l : List α) : fL N (.row g sz n e (row c l)) = .row g sz n e (row c l) := by
 suffices e : (fun i => (row c l i).map (nK N)) = row c l by unfold fL; simp only [e]
 funext i
 have h := lr (l := l) hp i
 generalize row c l i = q at h
 induction q with
 | nil => rfl
 | cons a r ih =>
  simp only [afb, so] at h
  rw [aec, ih h.2]
  cases a <;> first | rfl | cases h.1
theorem k8 {α : Type} {c : α → List PV} (hp : ∀ x, (c x).all bG = true) (σ : Nat → Nat) (g sz n : Nat) (e : TypeId) (l : List α) : uy σ (.row g sz n e (row c l)) = .row g sz n e (row c l) := by
 suffices e : (fun i => (row c l i).map (pZ σ)) = row c l by unfold uy; simp only [e]
 funext i
 have h := lr (l := l) hp i
 generalize row c l i = q at h
 induction q with
 | nil => rfl
 | cons a r ih =>
  simp only [afb, so] at h
  rw [aec, ih h.2]
  cases a <;> first | rfl | cases h.1
theorem ACall.aag {P : Program} {f : FuncId} {args : List PV} {r0 : PV} (hA : ACall P f args [] (fun res h => res = r0 ∧ h = [])) (h : List ak) (hp : args.all DY = true) (hr : ∀ n, oL n r0 = r0) :
  ACall P f args h (fun res h' => res = r0 ∧ h' = h) :=
 (hA.frame h hp).mono (by rintro _ _ ⟨_, _, ⟨rfl, rfl⟩, rfl, rfl⟩; exact ⟨hr _, by simp⟩)
theorem ACall.aah {P : Program} {f : FuncId} {args jn : List PV} {r0 : PV} (hA : ACall P f jn [] (fun res h => res = r0 ∧ h = [])) (h : List ak) (hz : wE h [] [] args jn) (hn : jn.all lK = true) (hf : DX r0 = true) (hr : ∀ n, oL n r0 = r0) :
  ACall P f args h (fun res h' => res = r0 ∧ h' = h) :=
 (hA.aaa h hz hn (by rintro _ _ ⟨rfl, rfl⟩; exact ⟨hf, by simp⟩)).mono (by rintro _ _ ⟨_, _, ⟨rfl, rfl⟩, rfl, rfl⟩; exact ⟨hr _, by simp⟩)
section
variable {κ β : Type} [DecidableEq κ]
def ir : List (κ × β) → κ → Option β
 | [], _ => none
 | (a, b) :: r, k => if k = a then some b else ir r k
def rY (l : List (κ × β)) (k : κ) (z : β) : β := (ir l k).getD z
def tD (l : List (κ × β)) (k : κ) : Bool := (ir l k).isSome
def fX : List (κ × β) → κ → β → List (κ × β)
 | [], k, v => [(k, v)]
 | (a, b) :: r, k, v => if k = a then (k, v) :: r else (a, b) :: fX r k v
def mc (c : κ → PV) (d : β → PV) (p : κ × β) : List PV := [c p.1, d p.2]
def scP : PV → Bool
 | .agg cs => cs.all bG
 | v => bG v
theorem vd {c : κ → PV} {d : β → PV} {ti : TI} (he : ∀ a b, lf ti (c a) (c b) = some (decide (a = b))) : ∀ (l : List (κ × β)) (k : κ) (n : Nat), n ≤ l.length → (∀ j, j < n → ∀ p, l[j]? = some p → k ≠ p.1) → DQ ti (row (mc c d) l) n (c k) := fun l k n hn h j hj => by
 have bO : j < l.length := by omega
 refine ⟨c l[j].1, d l[j].2, by rw [lp bO]; rfl, ?_⟩
 rw [he, decide_eq_false (h j hj _ (Is bO))]
theorem Hs : ∀ (l : List (κ × β)) (k : κ) (b : β), ir l k = some b → ∃ i, i < l.length ∧ l[i]? = some (k, b) ∧ ∀ j, j < i → ∀ p, l[j]? = some p → k ≠ p.1
 | [], _, _, h => by cases h
 | (a, b0) :: r, k, b, h => by
  unfold ir at h
  by_cases hk : k = a
  ·rw [if_pos hk] at h
   obtain rfl := aeC h
   subst hk
   exact ⟨0, by simp, rfl, fun j hj => absurd hj (aey _)⟩
  ·rw [if_neg hk] at h
   obtain ⟨i, h1, h2, h3⟩ := Hs r k b h
   refine ⟨i + 1, by simpa using h1, by simpa using h2, fun j hj p hp => ?_⟩
   cases j with
   | zero => simp at hp; subst hp; exact hk
   | succ j => exact h3 j ahw p ahV
theorem wF : ∀ (l : List (κ × β)) (k : κ), ir l k = none → ∀ (j : Nat) (p : κ × β), l[j]? = some p → k ≠ p.1
 | [], _, _, j, p, hp => by simp at hp
 | (a, b0) :: r, k, h, j, p, hp => by
  unfold ir at h
  by_cases hk : k = a
  ·rw [if_pos hk] at h; cases h
  ·rw [if_neg hk] at h
   cases j with
   | zero => simp at hp; subst hp; exact hk
   | succ j => exact wF r k h j p ahV
theorem rC {c : κ → PV} {d : β → PV} {ti : TI} (he : ∀ a b, lf ti (c a) (c b) = some (decide (a = b))) (l : List (κ × β)) (k : κ) (z : β) : OW ti (row (mc c d) l) l.length (c k) (d z) (d (rY l k z)) (tD l k) := by
 unfold rY tD
 cases h : ir l k with
 | some b =>
  obtain ⟨i, h1, h2, h3⟩ := Hs l k b h
  exact .inl ⟨rfl, i, h1, vd he l k i ahw h3, c k, by rw [ki h2]; rfl, by rw [he, decide_eq_true rfl]⟩
 | none => exact .inr ⟨rfl, rfl, vd he l k _ (adV _) (fun j _ p hp => wF l k h j p hp)⟩
theorem DZ : ∀ (l : List (κ × β)) (k : κ) (v : β), ir l k = none → fX l k v = l ++ [(k, v)]
 | [], _, _, _ => rfl
 | (a, b0) :: r, k, v, h => by
  unfold ir at h
  unfold fX
  by_cases hk : k = a
  ·rw [if_pos hk] at h; cases h
  ·rw [if_neg hk] at h
   rw [if_neg hk, DZ r k v h]; rfl
theorem D0 : ∀ (l : List (κ × β)) (k : κ) (v b : β), ir l k = some b → ∃ i, i < l.length ∧ l[i]? = some (k, b) ∧ (∀ j, j < i → ∀ p, l[j]? = some p → k ≠ p.1) ∧ (fX l k v).length = l.length ∧ (fX l k v)[i]? = some (k, v) ∧ ∀ j, j ≠ i → (fX l k v)[j]? = l[j]?
 | [], _, _, _, h => by cases h
 | (a, b0) :: r, k, v, b, h => by
  unfold ir at h
  unfold fX
  by_cases hk : k = a
  ·rw [if_pos hk] at h
   obtain rfl := aeC h
   rw [if_pos hk]
   subst hk
   exact ⟨0, by simp, rfl, fun j hj => absurd hj (aey _), by simp, rfl, fun j hj => by cases j with | zero => exact absurd rfl hj | succ j => rfl⟩
  ·rw [if_neg hk] at h
   obtain ⟨i, h1, h2, h3, h4, h5, h6⟩ := D0 r k v b h
   rw [if_neg hk]
   refine ⟨i + 1, by simpa using h1, by simpa using h2, fun j hj p hp => ?_, by simpa using h4, by simpa using h5, fun j hj => ?_⟩
   ·cases j with
    | zero => simp at hp; subst hp; exact hk
    | succ j => exact h3 j ahw p ahV
   ·cases j with
    | zero => rfl
    | succ j => simpa using h6 j ahw
theorem uS {c : κ → PV} {d : β → PV} {ti : TI} (he : ∀ a b, lf ti (c a) (c b) = some (decide (a = b))) (l : List (κ × β)) (k : κ) (v : β) : aai ti (row (mc c d) l) l.length (c k) (d v) (fX l k v).length (row (mc c d) (fX l k v)) := by
 cases h : ir l k with
 | some b =>
  obtain ⟨i, h1, h2, h3, h4, h5, h6⟩ := D0 l k v b h
  refine .inl ⟨i, d b, ⟨h1, vd he l k i ahw h3, c k, by rw [ki h2]; rfl, by rw [he, decide_eq_true rfl]⟩, h4, by rw [ki h5]; rfl, fun j hj jm => ?_⟩
  rw [ki (Is hj), ki ((h6 j jm).trans (Is hj))]
 | none =>
  rw [DZ l k v h]
  refine .inr ⟨vd he l k _ (adV _) (fun j _ p hp => wF l k h j p hp), by simp, ?_, fun j hj => ?_⟩
  ·rw [ki (x := (k, v)) ahy]; rfl
  ·rw [ki (Is hj), ki (x := l[j]) (by rw [aew hj, Is hj])]
end
theorem S4 {h η : List ak} {k : List Nat} {pv : PV} (hp : scP pv = true) : Fz h η k pv pv := by
 cases pv with
 | agg cs => exact Wp hp
 | _ => exact AX hp
theorem Fx {h η : List ak} {k : List Nat} {κ β : Type} {c : κ → PV} {d : β → PV} (hc : ∀ x, scP (c x) = true) (hd : ∀ x, scP (d x) = true) {l : List (κ × β)} {n : Nat} : ∀ i, i < n → wE h η k (row (mc c d) l i) (row (mc c d) l i) := fun i _ => by
 by_cases h : i < l.length
 ·rw [lp h]; exact ⟨S4 (hc _), S4 (hd _), trivial⟩
 ·unfold row; simp [adY, aev (show l.length ≤ i by omega)]; trivial
theorem oY (a b : aU) : lf .str (.str a) (.str b) = some (decide (a = b)) := by
 simp only [lf]
 have e : (a == b) = decide (a = b) := by rw [aeA]; simp
 rw [e]
theorem ln {a b : Nat} (h : a = b := by first | rfl | simp) : a = b := h
class pt {α : Type} (c : α → List PV) : Prop where
 pure : ∀ x, (c x).all bG = true
instance : pt cI := ⟨mV⟩
instance (k : IntKind) : pt (Wo k) := ⟨LM k⟩
instance : pt cB := ⟨Kn⟩
instance : pt cT := ⟨Rm⟩
instance : pt cS := ⟨Rn⟩
instance {α : Type} (sz : Nat) (c : α → List PV) : pt (cL sz c) := ⟨Ro sz c⟩
instance (a b : IntKind) : pt (mc (PV.int a) (PV.int b)) := ⟨fun _ => rfl⟩
instance (a : IntKind) : pt (mc (PV.int a) PV.bool) := ⟨fun _ => rfl⟩
instance (a : IntKind) : pt (mc (PV.int a) PV.str) := ⟨fun _ => rfl⟩
instance (b : IntKind) : pt (mc PV.str (PV.int b)) := ⟨fun _ => rfl⟩
instance : pt (mc PV.str PV.bool) := ⟨fun _ => rfl⟩
instance : pt (mc PV.str PV.str) := ⟨fun _ => rfl⟩
def S5 {α : Type} (l : List α) (off : Nat) (s : List α) : List α := l.mapIdx fun i x => if i < off then x else if i < off + s.length then s.getD (i - off) x else x
@[simp] theorem XC {α : Type} (l : List α) (off : Nat) (s : List α) : (S5 l off s).length = l.length := by unfold S5; simp
section
variable {h η : List ak} {k : List Nat}
theorem Fz.i {q : IntKind} {a b : Int} (e : a = b := by rfl) : Fz h η k (.int q a) (.int q b) := .int_eq e
theorem Fz.b {a b : Bool} (e : a = b := by rfl) : Fz h η k (.bool a) (.bool b) := .KE e
theorem Fz.s {a b : List UInt8} (e : a = b := by rfl) : Fz h η k (.str a) (.str b) := .OK e
theorem Fz.l {sz n : Nat} {f : Nat → List PV} : Fz h η k (.gz sz n f) (.gz sz n f) := .gz _ _ _ _ (fun _ _ => rfl)
theorem Fz.z {α : Type} {c : α → List PV} {sz : Nat} : Fz h η k .aq (sl sz c []) := .S6 _ _
theorem Fz.g {id id' g' cf : Nat} {e' : TypeId} {f' : Nat → List PV} (hk : k[id']? = some id := by rfl) (ho : h[id]? = none := by rfl) (hη : η[id']? = some (ak.row g' cf 0 e' f') := by rfl) : Fz h η k .aq (.own id' g' 0 0) := .aaj id id' g' cf e' f' hk ho hη
theorem Fz.o {id id' g g' sz cf n len : Nat} {e e' : TypeId} {f f' : Nat → List PV} (hk : k[id']? = some id := by rfl) (ho : h[id]? = some (ak.row g sz n e f) := by rfl) (hη : η[id']? = some (ak.row g' cf len e' f') := by rfl) : Fz h η k (.own id g 0 len) (.own id' g' 0 len) :=
 .own _ _ _ _ _ _ _ _ _ _ _ _ _ _ hk ho hη (Nat.le_of_eq (adX _))
theorem Fz.ox {id id' g g' sz cf n len yU : Nat} {e e' : TypeId} {f f' : Nat → List PV} (hl : len = yU) (hk : k[id']? = some id := by rfl) (ho : h[id]? = some (ak.row g sz n e f) := by rfl) (hη : η[id']? = some (ak.row g' cf yU e' f') := by rfl) : Fz h η k (.own id g 0 len) (.own id' g' 0 yU) := by
 subst hl; exact Fz.o hk ho hη
theorem Fz.p {id id' g g' sz cf n n' off : Nat} {e e' : TypeId} {f f' : Nat → List PV} (hk : k[id']? = some id := by rfl) (ho : h[id]? = some (ak.row g sz n e f) := by rfl) (hη : η[id']? = some (ak.row g' cf (n' + 1) e' f') := by rfl) : Fz h η k (.aG id g 0 off) (.aG id' g' 0 off) :=
 .aG _ _ _ _ _ _ _ _ _ _ _ _ _ _ hk ho hη (Nat.succ_pos _)
theorem Fz.m {id id' g g' sz cf n n' : Nat} {e e' : TypeId} {f f' : Nat → List PV} (hk : k[id']? = some id := by rfl) (ho : h[id]? = some (ak.row g sz n e f) := by rfl) (hη : η[id']? = some (ak.row g' cf n' e' f') := by rfl) : Fz h η k (.lA id) (.lA id') :=
 .lA _ _ _ _ _ _ _ _ _ _ _ _ hk ho hη
theorem Fz.j {pv : PV} : Fz h η k pv .iZ := .iZ _
theorem Fz.f {n : Nat} : Fz h η k (.fn n) (.fn n) := .fn _
theorem Fz.r {α : Type} {c : α → List PV} [pt c] {id g sz n : Nat} {e : TypeId} {l : List α} (ho : h[id]? = some (ak.row g sz n e (row c l)) := by rfl) (hk : id ∉ k := by first | decide | simp) : Fz h η k (.own id g 0 l.length) (sl sz c l) := OV pt.pure hk ho aS
theorem Fz.rx {α : Type} {c : α → List PV} [pt c] {id g sz n len : Nat} {e : TypeId} {l : List α} (hl : len = l.length) (ho : h[id]? = some (ak.row g sz n e (row c l)) := by rfl) (hk : id ∉ k := by first | decide | simp) : Fz h η k (.own id g 0 len) (sl sz c l) := Rq pt.pure hk ho aS hl
variable {m : Nat}
theorem od {α : Type} {c : α → List PV} [pt c] {id g sz : Nat} {e : TypeId} {l : List α} (ho : h[id]? = some (ak.row g sz l.length e (row c l)) := by rfl) : vT h η k m (.row g sz l.length e (row c l)) id id := by
 unfold vT; rw [ho]; exact ⟨fun _ => ⟨rfl, rfl⟩, rfl, .inl rfl, rfl, fun i _ => lX (lr pt.pure i)⟩
theorem odx {α : Type} {c : α → List PV} [pt c] {id g sz n n' : Nat} {e : TypeId} {l : List α} (ho : h[id]? = some (ak.row g sz n e (row c l))) (hn : n' = n) : vT h η k m (.row g sz n' e (row c l)) id id := by
 unfold vT; rw [ho]; exact ⟨fun _ => ⟨rfl, rfl⟩, rfl, .inl hn, rfl, fun i _ => lX (lr pt.pure i)⟩
theorem ob {id g sz : Nat} {e : TypeId} {a b : List PV} (ho : h[id]? = some (ak.row g sz 1 e (fun _ => a))) (F : wE h η k a b) : vT h η k m (.row g sz 1 e (fun _ => b)) id id := by
 unfold vT; rw [ho]; exact ⟨fun _ => ⟨rfl, rfl⟩, rfl, .inl rfl, rfl, fun i _ => F⟩
theorem nw {α : Type} {c : α → List PV} [pt c] {i id g g' sz : Nat} {e : TypeId} {l : List α} (hi : Nat.ble m i = true := by rfl) (ho : h[id]? = some (ak.row g sz l.length e (row c l)) := by rfl) : vT h η k m (.row g' sz l.length e (row c l)) i id := by
 unfold vT; rw [ho]; exact ⟨fun h0 => absurd h0 (Nat.not_lt.2 (ael hi)), rfl, .inl rfl, rfl, fun i _ => lX (lr pt.pure i)⟩
theorem Up {α : Type} {c : α → List PV} [pt c] {i id g g' sz n n' : Nat} {e : TypeId} {l : List α} (ho : h[id]? = some (ak.row g sz n e (row c l))) (hn : n' = n) (hi : Nat.ble m i = true := by rfl) : vT h η k m (.row g' sz n' e (row c l)) i id := by
 unfold vT; rw [ho]; exact ⟨fun h0 => absurd h0 (Nat.not_lt.2 (ael hi)), rfl, .inl hn, rfl, fun i _ => lX (lr pt.pure i)⟩
theorem nb {i id g g' sz : Nat} {e : TypeId} {a b : List PV} (ho : h[id]? = some (ak.row g sz 1 e (fun _ => a))) (F : wE h η k a b) (hi : Nat.ble m i = true := by rfl) : vT h η k m (.row g' sz 1 e (fun _ => b)) i id := by
 unfold vT; rw [ho]; exact ⟨fun h0 => absurd h0 (Nat.not_lt.2 (ael hi)), rfl, .inl rfl, rfl, fun i _ => F⟩
theorem nA {id g sz : Nat} {e : TypeId} {a : List PV} (ho : h[id]? = some (ak.row g sz 1 e (fun _ => a))) (hp : a.all bG = true := by rfl) : vT h η k m (.row g sz 1 e (fun _ => a)) id id := ob ho (lX hp)
theorem bn {i id g g' sz : Nat} {e : TypeId} {a : List PV} (ho : h[id]? = some (ak.row g sz 1 e (fun _ => a))) (hp : a.all bG = true := by rfl) (hi : Nat.ble m i = true := by rfl) : vT h η k m (.row g' sz 1 e (fun _ => a)) i id := nb ho (lX hp) hi
theorem dd {i id : Nat} : vT h η k m .dead i id := by unfold vT; trivial
theorem gh {i id g' cf : Nat} {e' : TypeId} {f' : Nat → List PV} (hi : Nat.ble m i = true := by rfl) (ho : h[id]? = none := by rfl) : vT h η k m (.row g' cf 0 e' f') i id := by
 unfold vT; rw [ho]; exact ⟨ael hi, rfl⟩
theorem tk {env : Env} {σ : List (Nat × PV)} (k : List Nat) (he : KG h η k env σ) (hh : p6 h η k m 0 η k) (hd : oM (oq η k) = true := by rfl) (hl : Nat.ble m k.length = true := by rfl) : uz m env h σ η := ⟨k, hd, ael hl, he, hh⟩
theorem ct {J : List (Nat × PV) → List ak → Prop} {env : Env} {σ : List (Nat × PV)} (hj : J σ η) (ht : uz m env h σ η) : xL m J env h := .mk σ η ht hj
theorem lg {body : (Env → List ak → Prop) → Env → List ak → Prop} {env : Env} {σ : List (Nat × PV)} (hj : aB m body σ η) (ht : uz m env h σ η) : loopGo m body env h := .mk σ η ht hj
theorem le {body : (Env → List ak → Prop) → Env → List ak → Prop} {env : Env} {σ : List (Nat × PV)} (hj : aB m body σ η) (ht : uz m env h σ η) : qH m body env h := .take σ η ht hj
theorem en {R : PV → List ak → Prop} {vs : List PV} {res : PV} (k : List Nat) (hR : R res η) (F : Fz h η k (oneOf vs) res) (hh : p6 h η k m 0 η k) (hd : oM (oq η k) = true := by rfl) (hl : Nat.ble m k.length = true := by rfl) (hn : vs.all lK = true := by rfl) : Ends m R h vs := by
 exact .mk hn k res η hd (ael hl) F hh hR
theorem eB {a r : Bool} (hh : some a = some r) : Ends 0 (fun res h => res = .bool r ∧ h = []) h [.bool a] := .mk rfl [] _ [] rfl (adV _) (.KE (aeC hh)) trivial ⟨rfl, rfl⟩
theorem eI {q : IntKind} {a r : Int} (hh : some a = some r) : Ends 0 (fun res h => res = .int q r ∧ h = []) h [.int q a] := .mk rfl [] _ [] rfl (adV _) (.int_eq (aeC hh)) trivial ⟨rfl, rfl⟩
theorem eS {a r : List UInt8} (hh : some a = some r) : Ends 0 (fun res h => res = .str r ∧ h = []) h [.str a] := .mk rfl [] _ [] rfl (adV _) (.OK (aeC hh)) trivial ⟨rfl, rfl⟩
end
section
variable {α : Type} {x y r : α} {T F : Prop}
theorem sD {c : Prop} [Decidable c] (h : (if c then x else y) = r) (kT : decide c = true → x = r → T) (kF : decide c = false → y = r → F) : fv (decide c) T F := .mk (fun hb => kT hb (aac hb h)) (fun hb => kF hb (aad hb h))
theorem sE {β : Type} [BEq β] [LawfulBEq β] {a b : β} [Decidable (a = b)] (h : (if a = b then x else y) = r) (kT : (a == b) = true → x = r → T) (kF : (a == b) = false → y = r → F) : fv (a == b) T F := .mk (fun hb => kT hb (OQ hb h)) (fun hb => kF hb (OR hb h))
theorem nq {β : Type} [BEq β] [LawfulBEq β] {a b : β} [Decidable (a = b)] (h : (if a = b then x else y) = r) (kT : (!(a == b)) = true → y = r → T) (kF : (!(a == b)) = false → x = r → F) : fv (!(a == b)) T F := .mk (fun hb => kT hb (OR (SZ hb) h)) (fun hb => kF hb (OQ (SY hb) h))
theorem sN {β : Type} [BEq β] [LawfulBEq β] {a b : β} [Decidable (a = b)] (h : (if a = b then x else y) = r) (kT : (a != b) = true → y = r → T) (kF : (a != b) = false → x = r → F) : fv (a != b) T F := .mk (fun hb => kT hb (aae hb h)) (fun hb => kF hb (aaf hb h))
theorem sV {b : Bool} (h : (if b = true then x else y) = r) (kT : b = true → x = r → T) (kF : b = false → y = r → F) : fv b T F := .mk (fun hb => kT hb (SW hb h)) (fun hb => kF hb (SX hb h))
theorem hB {b : Bool} (h : (if b = true then x else y) = r) (kT : (!b) = true → y = r → T) (kF : (!b) = false → x = r → F) : fv (!b) T F := .mk (fun hb => kT hb (SX (SZ hb) h)) (fun hb => kF hb (SW (SY hb) h))
end
theorem fv.t {T F : Prop} (h : T) : fv true T F := OS h
theorem fv.f {T F : Prop} (h : F) : fv false T F := OT h
theorem fv.kt {b : Bool} {T F : Prop} (hb : b = true) (h : T) : fv b T F := LK hb h
theorem fv.kf {b : Bool} {T F : Prop} (hb : b = false) (h : F) : fv b T F := LL hb h
theorem uA.d {m : Nat} {A B : XQ → Env → List ak → Prop} {Q : XQ} {env : Env} {h : List ak} (hd : A (XQ.then (B Q) Q) env h) : uA m A B Q env h := .direct hd
inductive Nz : PV → PV → Prop
 | same (a : PV) : Nz a a
 | nil (sz : Nat) (f : Nat → List PV) : Nz .aq (.gz sz 0 f)
def NzL : List PV → List PV → Prop
 | [], [] => True
 | a :: l, b :: r => Nz a b ∧ NzL l r
 | _, _ => False
inductive NzA : PV → PV → Prop
 | same (a : PV) : NzA a a
 | nil (sz : Nat) (f : Nat → List PV) : NzA .aq (.gz sz 0 f)
 | agg {cs Dm : List PV} (h : NzL cs Dm) : NzA (.agg cs) (.agg Dm)
def Rr : List PV → List PV → Prop
 | [], [] => True
 | a :: l, b :: r => NzA a b ∧ Rr l r
 | _, _ => False
theorem NzL.get : ∀ {l r : List PV}, NzL l r → r.length = l.length ∧ ∀ (j : Nat) (p : PV), r[j]? = some p → ∃ q : PV, l[j]? = some q ∧ Nz q p
 | [], [], _ => ⟨rfl, fun j p h => by simp at h⟩
 | a :: l, b :: r, h => by
  obtain ⟨h1, h2⟩ := NzL.get h.2
  refine ⟨by simp [h1], fun j p hj => ?_⟩
  cases j with
  | zero => simp at hj; subst hj; exact ⟨a, rfl, h.1⟩
  | succ j => obtain ⟨q, q1, q2⟩ := h2 j p ahI; exact ⟨q, by simpa using q1, q2⟩
 | [], _ :: _, h => h.elim
 | _ :: _, [], h => h.elim
theorem Rr.get : ∀ {l r : List PV}, Rr l r → r.length = l.length ∧ ∀ (j : Nat) (p : PV), r[j]? = some p → ∃ q : PV, l[j]? = some q ∧ NzA q p
 | [], [], _ => ⟨rfl, fun j p h => by simp at h⟩
 | a :: l, b :: r, h => by
  obtain ⟨h1, h2⟩ := Rr.get h.2
  refine ⟨by simp [h1], fun j p hj => ?_⟩
  cases j with
  | zero => simp at hj; subst hj; exact ⟨a, rfl, h.1⟩
  | succ j => obtain ⟨q, q1, q2⟩ := h2 j p ahI; exact ⟨q, by simpa using q1, q2⟩
 | [], _ :: _, h => h.elim
 | _ :: _, [], h => h.elim
section
variable {P : Program} {f : FuncId} {args : List PV} {h : List ak} {K : PV → List ak → Prop} {r0 : PV}
theorem bJ (hA : ACall P f args [] (fun res h => res = r0 ∧ h = [])) (k : K r0 h) (hp : args.all DY = true := by rfl) (hr : ∀ n, oL n r0 = r0 := by intro _; rfl) : vU P f args h K :=
 ⟨_, hA.aag h hp hr, by rintro _ _ ⟨rfl, rfl⟩; exact k⟩
theorem Qc {jn : List PV} (hA : ACall P f jn [] (fun res h => res = r0 ∧ h = [])) (hz : wE h [] [] args jn) (k : K r0 h) (hn : jn.all lK = true := by rfl) (hf : DX r0 = true := by rfl) (hr : ∀ n, oL n r0 = r0 := by intro _; rfl) : vU P f args h K :=
 ⟨_, hA.aah h hz hn hf hr, by rintro _ _ ⟨rfl, rfl⟩; exact k⟩
theorem shr {α : Type} {c : α → List PV} [pt c] (N g sz n : Nat) (e : TypeId) (l : List α) : fL N (.row g sz n e (row c l)) = .row g sz n e (row c l) := BD pt.pure N g sz n e l
theorem EB {α : Type} {c : α → List PV} [pt c] (σ : Nat → Nat) (g sz n : Nat) (e : TypeId) (l : List α) : uy σ (.row g sz n e (row c l)) = .row g sz n e (row c l) := k8 pt.pure σ g sz n e l
theorem pcF {h0 : List ak} (hA : ACall P f args [] (fun res h => res = r0 ∧ h = h0)) (r1 : PV) (h1 : List ak) (k : K r1 h1) (e2 : h ++ h0.map (fL h.length) = h1 := by simp only [aec, aep, shr]; rfl) (e1 : oL h.length r0 = r1 := by rfl) (hp : args.all DY = true := by rfl) : vU P f args h K :=
 ⟨_, hA.frame h hp, by rintro _ _ ⟨_, _, ⟨rfl, rfl⟩, rfl, rfl⟩; rw [e1, e2]; exact k⟩
def S7 (h : List ak) (σ : Nat → Nat) : List ak → List Nat → Prop
 | [], _ => True
 | o :: r, i :: is => h[i]? = some (uy σ o) ∧ S7 h σ r is
 | _ :: _, [] => False
theorem S7.get {h : List ak} {σ : Nat → Nat} : ∀ {hc : List ak} {is : List Nat}, S7 h σ hc is → ∀ (j : Nat) (o : ak), hc[j]? = some o → ∃ i : Nat, is[j]? = some i ∧ h[i]? = some (uy σ o)
 | [], _, _, j, o, hj => by simp at hj
 | a :: r, [], hh, _, _, _ => hh.elim
 | a :: r, i :: is, hh, 0, o, hj => by simp at hj; subst hj; exact ⟨i, rfl, hh.1⟩
 | a :: r, i :: is, hh, j + 1, o, hj => by
  obtain ⟨q, h1, h2⟩ := S7.get hh.2 j o ahI
  exact ⟨q, by simpa using h1, h2⟩
theorem ov {α : Type} {c : α → List PV} [pt c] {σ : Nat → Nat} {g sz n : Nat} {e : TypeId} {l : List α} {x : Option ak} (hx : x = some (.row g sz n e (row c l)) := by rfl) : x = some (uy σ (.row g sz n e (row c l))) := by rw [k8 pt.pure]; exact hx
theorem ACall.OX {hc : List ak} {args ot : List PV} {R : PV → List ak → Prop} (hA : ACall P f args hc R) (is : List Nat) (h : List ak) (jq : S7 h (iA is h.length) hc is) (hl : hc.length = is.length) (hd : is.Nodup) (bO : is.all (fun id => Nat.blt id h.length) = true)
  (qG : ot = args.map (B8 (iA is h.length))) : ACall P f ot h (fun res h' => ∃ r0 h0, R r0 h0 ∧ res = Js (iA is h.length) r0 ∧ h' = lN h is h0) :=
 hA.over is h hl hd (fun id hid => ael (aeb.1 bO id hid)) (fun j o hj => by
  obtain ⟨i, h1, h2⟩ := jq.get j o hj
  unfold iA; rw [h1]; exact h2) qG
theorem ko {hc h0 : List ak} {args ot : List PV} (hA : ACall P f args hc (fun res h => res = r0 ∧ h = h0)) (is : List Nat) (jq : S7 h (iA is h.length) hc is) (r1 : PV) (h1 : List ak) (k : K r1 h1) (e2 : lN h is h0 = h1 := by simp only [lN, eM, aec, aep, List.drop, As, adU, EB]; rfl) (e1 : Js (iA is h.length) r0 = r1 := by rfl)
  (hl : hc.length = is.length := by rfl) (hd : is.Nodup := by decide) (bO : is.all (fun id => Nat.blt id h.length) = true := by rfl) (qG : ot = args.map (B8 (iA is h.length)) := by rfl) : vU P f ot h K :=
 ⟨_, hA.OX is h jq hl hd bO qG, by rintro _ _ ⟨_, _, ⟨rfl, rfl⟩, rfl, rfl⟩; rw [e1, e2]; exact k⟩
theorem YK {γ : Type} {h0 : γ → List ak} {args ot : List PV} {R0 : γ → PV} {hc : List ak} (hA : ACall P f args hc (fun res h => ∃ g, res = R0 g ∧ h = h0 g)) (is : List Nat) (jq : S7 h (iA is h.length) hc is) (R1 : γ → PV) (H1 : γ → List ak) (k : ∀ g, K (R1 g) (H1 g)) (e2 : ∀ g, lN h is (h0 g) = H1 g := by intro g; simp only [lN, eM, aec, aep, List.drop, As, adU, EB]; rfl) (e1 : ∀ g, Js (iA is h.length) (R0 g) = R1 g := by intro _; rfl)
  (hl : hc.length = is.length := by rfl) (hd : is.Nodup := by decide) (bO : is.all (fun id => Nat.blt id h.length) = true := by rfl) (qG : ot = args.map (B8 (iA is h.length)) := by rfl) : vU P f ot h K :=
 ⟨_, hA.OX is h jq hl hd bO qG, by rintro _ _ ⟨_, _, ⟨g, rfl, rfl⟩, rfl, rfl⟩; rw [e1, e2]; exact k g⟩
end
theorem si {α : Type} {a b : α} (h : some a = some b) : a = b := aeC h
theorem bk {α β : Type} {x : Option α} {f : α → Option β} {r : β} {G : Prop} (h : (x >>= f) = some r) (k : ∀ a, x = some a → f a = some r → G) : G := by
 obtain ⟨a, h1, h2⟩ := bind_some h
 exact k a h1 h2
theorem bd {α β : Type} {x : Option α} {f : α → Option β} {r : β} (h : (x >>= f) = some r) : ∃ a, x = some a ∧ f a = some r := bind_some h
structure DR {α : Type} (D : List PV → α → Prop) (n : Nat) (f : Nat → List PV) (l : List α) : Prop where
 len : l.length = n
 at_ : ∀ i (h : i < l.length), D (f i) l[i]
 z : ∀ i, n ≤ i → f i = []
inductive S8 : PV → PV → Prop
 | p {a : PV} (h : bG a = true) : S8 a a
 | o {a b : PV} (h : AA a b) : S8 a b
def yV : List PV → List PV → Prop
 | [], [] => True
 | a :: l, b :: r => S8 a b ∧ yV l r
 | _, _ => False
class KH {α : Type} (D : List PV → α → Prop) (c : outParam (α → List PV)) : Prop where
 Z9 : ∀ cs x, D cs x → yV cs (c x)
def uP {α : Type} (c : α → List PV) : List PV → α → Prop := fun cs x => cs = c x
theorem yV.len : ∀ {l r : List PV}, yV l r → r.length = l.length
 | [], [], _ => rfl
 | a :: l, b :: r, h => congrArg (· + 1) (yV.len h.2)
 | [], _ :: _, h => h.elim
 | _ :: _, [], h => h.elim
theorem yV.get : ∀ {l r : List PV}, yV l r → ∀ {j : Nat} {a b : PV}, l[j]? = some a → r[j]? = some b → S8 a b
 | a :: l, b :: r, h, 0, x, y, hx, hy => by simp at hx hy; subst hx hy; exact h.1
 | a :: l, b :: r, h, j + 1, x, y, hx, hy => yV.get h.2 (by simpa using hx) aif
 | [], _, h, j, x, y, hx, hy => by simp at hx
 | _ :: _, [], h, _, _, _, _, _ => h.elim
theorem yV.pure : ∀ {l : List PV}, l.all bG = true → yV l l
 | [], _ => trivial
 | a :: l, h => by
  simp only [afb, so] at h
  exact ⟨.p h.1, yV.pure h.2⟩
theorem AA.isO {a b : PV} (h : AA a b) : ef a = true := by cases h; rfl
theorem AA.KI {a b : PV} (h : AA a b) : bG b = true := by cases h; rfl
theorem S8.po {a b : PV} (h : S8 a b) : bG a = true ∨ ef a = true := by
 cases h with
 | p h => exact .inl h
 | o h => exact .inr h.isO
theorem S8.KI {a b : PV} (h : S8 a b) : bG b = true := by
 cases h with
 | p h => exact h
 | o h => exact h.KI
theorem yV.po {l r : List PV} (h : yV l r) : ∀ c, c ∈ l → bG c = true ∨ ef c = true := fun c hc => by
 obtain ⟨j, hj, rfl⟩ := afr hc
 have hl := h.len
 exact (h.get (Is hj) (Is (show j < r.length by omega))).po
instance {α : Type} (c : α → List PV) [hp : pt c] : KH (uP c) c := ⟨fun cs x h => by
 have h : cs = c x := h
 subst h; exact yV.pure (hp.pure x)⟩
theorem Jt {a : PV} (h : ef a = true) : bG a = false := by cases a <;> first | rfl | cases h
theorem Wq {σ : Nat → Nat} {a : PV} (h : bG a = true ∨ ef a = true) : pZ σ a = a := by cases a <;> first | rfl | (rcases h with h | h <;> cases h)
theorem OY {N : Nat} {a : PV} (h : bG a = true ∨ ef a = true) : nK N a = a := by cases a <;> first | rfl | (rcases h with h | h <;> cases h)
theorem OZ {g : PV → PV} : ∀ {l : List PV}, (∀ c, c ∈ l → g c = c) → l.map g = l
 | [], _ => rfl
 | a :: l, h => by simp only [aec]; rw [h a ahy, OZ (fun c hc => h c (by simp [hc]))]
section
variable {α : Type} {D : List PV → α → Prop} {c : α → List PV} {n : Nat} {f : Nat → List PV} {l : List α}
theorem xM (hD : ∀ i (h : i < l.length), yV (f i) (c l[i])) (hl : l.length = n) (sz : Nat) (e : TypeId) (F : Nat → Prop) : AA (.bf sz n e f F) (sl sz c l) := by
 subst hl
 have at_ : ∀ i, i < l.length → yV (f i) (row c l i) := fun i hi => by rw [lp hi]; exact hD i hi
 refine .mk sz l.length e f (row c l) F (fun i hi => (at_ i hi).len) (fun i j pv fR hi h1 h2 hn => ?_) (fun i j pv fR hi h1 h2 hn => ?_) (fun i j fR hi h2 => ?_)
 ·cases (at_ i hi).get h1 h2 with
  | p _ => rfl
  | o h => rw [h.isO] at hn; cases hn
 ·cases (at_ i hi).get h1 h2 with
  | p h => rw [Jt hn] at h; cases h
  | o h => exact h
 ·have hj : j < (f i).length := by rw [← (at_ i hi).len]; exact (An.1 h2).1
  exact ((at_ i hi).get (Is hj) h2).KI
theorem DR.od [hc : KH D c] (d : DR D n f l) : ∀ i (h : i < l.length), yV (f i) (c l[i]) := fun i h => hc.Z9 _ _ (d.at_ i h)
theorem DR.po [hc : KH D c] (d : DR D n f l) : ∀ i, i < n → ∀ x, x ∈ f i → bG x = true ∨ ef x = true := fun i hi => (d.od (c := c) i (by rw [d.len]; exact hi)).po
theorem DR.ren [hc : KH D c] (d : DR D n f l) {g : PV → PV} (hg : ∀ x, bG x = true ∨ ef x = true → g x = x) : (fun i => (f i).map g) = f := by
 funext i
 by_cases hi : i < n
 ·exact OZ (fun x hx => hg x (d.po (c := c) i hi x hx))
 ·rw [d.z i ahw]; rfl
theorem red [hc : KH D c] (d : DR D n f l) (σ : Nat → Nat) (g sz n' : Nat) (e : TypeId) : uy σ (.row g sz n' e f) = .row g sz n' e f := by
 show ak.row g sz n' e (fun i => (f i).map (pZ σ)) = _
 rw [d.ren (c := c) (fun x => Wq)]
theorem Y8 [hc : KH D c] (d : DR D n f l) (N g sz n' : Nat) (e : TypeId) : fL N (.row g sz n' e f) = .row g sz n' e f := by
 show ak.row g sz n' e (fun i => (f i).map (nK N)) = _
 rw [d.ren (c := c) (fun x => OY)]
theorem KY [hc : KH D c] (d : DR D n f l) {σ : Nat → Nat} {g sz n' : Nat} {e : TypeId} {x : Option ak} (hx : x = some (.row g sz n' e f) := by rfl) : x = some (uy σ (.row g sz n' e f)) := by rw [red (c := c) d]; exact hx
theorem DR.self (d : DR D n f l) : DR D l.length f l := by have h := d.len; subst h; exact d
theorem DR.nil : DR D 0 (fun _ => []) [] := ⟨rfl, fun i h => absurd h (aey _), fun _ _ => rfl⟩
theorem DR.sq {c : α → List PV} {l : List α} : DR (uP c) l.length (row c l) l := ⟨rfl, fun i h => lp h, fun i hi => by unfold row; simp [adY, aev (show (l.map c).length ≤ i by simpa using hi)]⟩
theorem DR.XS {c : α → List PV} (d : DR (uP c) n f l) : f = row c l := by
 funext i
 by_cases hi : i < l.length
 ·rw [lp hi]; exact d.at_ i hi
 ·rw [d.z i (by rw [← d.len]; omega), DR.sq.z i ahw]
theorem aT {f : Nat → List PV} {i : Nat} {cs : List PV} : bx f i cs i = cs := by
 unfold bx
 rw [show Nat.beq i i = true from aeY i]
 rfl
theorem ma {f : Nat → List PV} {i k : Nat} {cs : List PV} (h : k ≠ i) : bx f i cs k = f k := by
 unfold bx
 rw [show Nat.beq k i = false from afz.2 (fun q => h (adW q))]
 rfl
theorem DR.set (d : DR D n f l) {i : Nat} (hi : i < l.length) {cs : List PV} {x : α} (hx : D cs x) : DR D n (bx f i cs) (l.set i x) := by
 refine ⟨by rw [aeZ]; exact d.len, fun k hk => ?_, fun k hk => ?_⟩
 ·rw [aeZ] at hk
  rw [List.getElem_set]
  by_cases h : i = k
  ·subst h; rw [if_pos rfl, aT]; exact hx
  ·rw [if_neg h, ma (aff h)]; exact d.at_ k hk
 ·have := d.len
  rw [ma ahw]; exact d.z k hk
theorem DR.app (d : DR D n f l) {cs : List PV} {x : α} (hx : D cs x) : DR D (n + 1) (bx f n cs) (l ++ [x]) := by
 have hl := d.len
 refine ⟨by simp [hl], fun k hk => ?_, fun k hk => ?_⟩
 ·by_cases h : k = n
  ·subst h
   rw [aT, afg ahw]
   simp only [hl, aeR, List.getElem_cons_zero]
   exact hx
  ·rw [ma h, List.getElem_append_left (by simp at hk; omega)]; exact d.at_ k (by simp at hk; omega)
 ·rw [ma ahw]; exact d.z k ahw
theorem DR.idx [Inhabited α] (d : DR D n f l) {i : Int} {x : α} (h : Go.Am.idx l i = some x) : D (f i.toNat) x := by
 have h1 := OU h
 obtain ⟨h2, h3⟩ := An.1 h1
 rw [← h3]; exact d.at_ _ h2
theorem DR.lt [Inhabited α] (d : DR D n f l) {i : Int} {x : α} (h : Go.Am.idx l i = some x) : i.toNat < n := by rw [← d.len]; exact kO h
theorem DR.bd [Inhabited α] (d : DR D n f l) {i : Int} {x : α} (h : Go.Am.idx l i = some x) : 0 ≤ i ∧ i < (n : Int) := by rw [← d.len]; exact aK h
variable {h η : List ak} {k : List Nat} {m : Nat}
theorem aak {a : PV} (hp : bG a = true ∨ ef a = true) : Fz h η k a a := by
 cases a <;> first | exact AX rfl | exact .bf _ _ _ _ _ | (rcases hp with hp | hp <;> cases hp)
theorem Ju : ∀ {l : List PV}, (∀ c, c ∈ l → bG c = true ∨ ef c = true) → wE h η k l l
 | [], _ => trivial
 | a :: l, hp => ⟨aak (hp a ahy), Ju (fun c hc => hp c (by simp [hc]))⟩
theorem Fz.rd [hc : KH D c] {id g sz n0 n' : Nat} {e : TypeId} (d : DR D n f l) (hn : n' = l.length := by first | rfl | simp [*]) (ho : h[id]? = some (ak.row g sz n0 e f) := by rfl) (hk : id ∉ k := by first | decide | simp) : Fz h η k (.own id g 0 n') (sl sz c l) := by
 subst hn
 have at_ : ∀ i, i < l.length → yV (f i) (row c l i) := fun i hi => by rw [lp hi]; exact d.od (c := c) i hi
 refine .Z9 id g sz n0 0 l.length e f (row c l) hk ho (fun i hi => by rw [adX]; exact (at_ i hi).len) (fun i j fR hi h2 => ?_) (fun i j pv fR hi h1 h2 xp => ?_)
 ·have hj : j < (f i).length := by rw [← (at_ i hi).len]; exact (An.1 h2).1
  exact ((at_ i hi).get (Is hj) h2).KI
 ·rw [adX] at h1
  cases (at_ i hi).get h1 h2 with
  | p h => exact AX h
  | o h => exact absurd h xp
theorem tg [hc : KH D c] {id g sz n0 n' : Nat} {e : TypeId} (d : DR D n f l) (hn : n' = n0 := by first | rfl | simp [*]) (hle : n' = n := by first | rfl | simp [*]) (ho : h[id]? = some (ak.row g sz n0 e f) := by rfl) : vT h η k m (.row g sz n' e f) id id := by
 subst hn hle
 unfold vT; rw [ho]; exact ⟨fun _ => ⟨rfl, rfl⟩, rfl, .inl rfl, rfl, fun i hi => Ju (d.po (c := c) i hi)⟩
theorem lv [hc : KH D c] {i id g g' sz n0 n' : Nat} {e : TypeId} (d : DR D n f l) (hn : n' = n0 := by first | rfl | simp [*]) (hle : n' = n := by first | rfl | simp [*]) (hi : Nat.ble m i = true := by rfl) (ho : h[id]? = some (ak.row g sz n0 e f) := by rfl) : vT h η k m (.row g' sz n' e f) i id := by
 subst hn hle
 unfold vT; rw [ho]; exact ⟨fun h0 => absurd h0 (Nat.not_lt.2 (ael hi)), rfl, .inl rfl, rfl, fun i hi => Ju (d.po (c := c) i hi)⟩
theorem Fz.od {id id' g g' sz cf n0 n1 n2 n3 : Nat} {e e' : TypeId} {f f' : Nat → List PV} (h1 : n1 = n2 := by first | rfl | simp [*]) (h2 : n2 = n3 := by first | rfl | simp [*]) (hk : k[id']? = some id := by rfl) (ho : h[id]? = some (ak.row g sz n0 e f) := by rfl) (hη : η[id']? = some (ak.row g' cf n3 e' f') := by rfl) : Fz h η k (.own id g 0 n1) (.own id' g' 0 n2) := by
 subst h1 h2
 exact .own _ _ _ _ _ _ _ _ _ _ _ _ _ _ hk ho hη (Nat.le_of_eq (adX _))
theorem R8 (id : Nat) {g sz n : Nat} {e : TypeId} {f : Nat → List PV} {i cf n' : Nat} {e' : TypeId} {f' : Nat → List PV} {F : Nat → Prop} (j : Nat) (cs cs1 : List PV) (f1 : Nat → List PV) (hi : i < n) (hc : f i = cs) (h1 : f1 i = cs1) (hr : ∀ k, k ≠ i → f1 k = f k)
  (hj : cs[j]? = some (.bf cf n' e' f' F) := by rfl) (hs : cs1 = cs.set j (.own h.length 0 0 n') := by rfl) (ho : h[id]? = some (.row g sz n e f) := by rfl) {h2 : List ak} (h3 : h2 = h.set id (.row g sz n e f1) ++ [.row 0 cf n' e' f'] := by rfl) : Ht h h2 :=
 ⟨id, g, sz, n, e, f, i, j, cf, n', e', f', F, f1, ho, hi, by rw [hc]; exact hj, by rw [h1, hc, hs], fun k _ hk => hr k hk, h3⟩
theorem tS {id sub g sz n : Nat} {e : TypeId} {f : Nat → List PV} {g2 qI n2 : Nat} {e2 : TypeId} {f2 : Nat → List PV} {i : Nat} {j : Nat} {F : Nat → Prop} (cs cs1 : List PV) (f1 : Nat → List PV) (hi : i < n) (hc : f i = cs) (h1 : f1 i = cs1) (hr : ∀ k, k ≠ i → f1 k = f k)
  (hp : ∀ k, k < n2 → ∀ x, x ∈ f2 k → bG x = true ∨ ef x = true) (hj : cs[j]? = some (.own sub g2 0 n2) := by rfl) (hs : cs1 = cs.set j (.bf qI n2 e2 f2 F) := by rfl) (ho : h[id]? = some (.row g sz n e f) := by rfl) (yz : h[sub]? = some (.row g2 qI n2 e2 f2) := by rfl) (rZ : id ≠ sub := by decide)
  {h2 : List ak} (h3 : h2 = (h.set id (.row g sz n e f1)).set sub .dead := by rfl) : Hu h id i j sub F h2 :=
 ⟨g, sz, n, e, f, g2, qI, n2, e2, f2, f1, ho, yz, rZ, hi, by rw [hc]; exact hj, hp, by rw [h1, hc, hs], fun k _ hk => hr k hk, h3⟩
theorem BF {c : α → List PV} [hp : pt c] {l : List α} {n : Nat} : ∀ k, k < n → ∀ x, x ∈ row c l k → bG x = true ∨ ef x = true := fun k _ x hx => .inl (aeb.1 (lr hp.pure k) x hx)
theorem sh {f : Nat → List PV} {i off n : Nat} {c0 cv cs : List PV} (hc : nJ (gA c0 off cv) cs) : ∀ j, j < n → nJ (bx f i (gA c0 off cv) j) (bx f i cs j) := fun j _ => by
 by_cases h : j = i
 ·subst h; rw [aT, aT]; exact hc
 ·rw [ma h, ma h]; exact nJ.refl _
theorem eT {f : Nat → List PV} {i off n : Nat} {c0 cq cv cs : List PV} (hc : nJ (gA c0 off cv) cs) : ∀ j, j < n → nJ (bx (bx f i cq) i (gA c0 off cv) j) (bx f i cs j) := fun j _ => by
 by_cases h : j = i
 ·subst h; rw [aT, aT]; exact hc
 ·rw [ma h, ma h, ma h]; exact nJ.refl _
theorem eo {f : Nat → List PV} {i : Nat} {cs cq : List PV} : ∀ k, k ≠ i → bx f i cs k = bx f i cq k := fun k h => by rw [ma h, ma h]
theorem xo {f : Nat → List PV} {n N : Nat} {cs cq : List PV} (hN : N = n + 1) (hc : nJ cs cq) : ∀ i, i < N → nJ (bif Nat.blt i n then f (0 + i) else cs) (bx f n cq i) := fun i hi => by
 subst hN
 by_cases h : i < n
 ·rw [OM h, ma ahw, adX]; exact nJ.refl _
 ·obtain rfl : i = n := by omega
  rw [ON ahw, aT]; exact hc
end
section
variable {P : Program} {f : FuncId} {args : List PV} {h : List ak} {K : PV → List ak → Prop} {R : PV → List ak → Prop}
theorem tR {hc : List ak} {ot : List PV} (hA : ACall P f args hc R) (is : List Nat) (jq : S7 h (iA is h.length) hc is)
  (k : ∀ r0 h0, R r0 h0 → ∃ r1 h1, Js (iA is h.length) r0 = r1 ∧ lN h is h0 = h1 ∧ K r1 h1)
  (qG : ot = args.map (B8 (iA is h.length)) := by rfl) (hl : hc.length = is.length := by rfl) (hd : is.Nodup := by decide) (bO : is.all (fun id => Nat.blt id h.length) = true := by rfl) : vU P f ot h K :=
 ⟨_, hA.OX is h jq hl hd bO qG, by
  rintro _ _ ⟨r0, h0, hR, rfl, rfl⟩
  obtain ⟨r1, h1, rfl, rfl, hk⟩ := k r0 h0 hR
  exact hk⟩
theorem Y7 (hA : ACall P f args [] R) (k : ∀ r0 h0, R r0 h0 → ∃ r1 h1, oL h.length r0 = r1 ∧ h ++ h0.map (fL h.length) = h1 ∧ K r1 h1) (hp : args.all DY = true := by rfl) : vU P f args h K :=
 ⟨_, hA.frame h hp, by
  rintro _ _ ⟨r0, h0, hR, rfl, rfl⟩
  obtain ⟨r1, h1, rfl, rfl, hk⟩ := k r0 h0 hR
  exact hk⟩
theorem Zf {jn : List PV} (hA : ACall P f jn [] R) (hz : wE h [] [] args jn) (zQ : ∀ r0 h0, R r0 h0 → DX r0 = true ∧ ∀ o ∈ h0, xJ o) (k : ∀ r0 h0, R r0 h0 → ∃ r1 h1, oL h.length r0 = r1 ∧ h ++ h0.map (fL h.length) = h1 ∧ K r1 h1) (hn : jn.all lK = true := by rfl) : vU P f args h K :=
 ⟨_, hA.aab h hz hn zQ, by
  rintro _ _ ⟨r0, h0, hR, rfl, rfl⟩
  obtain ⟨r1, h1, rfl, rfl, hk⟩ := k r0 h0 hR
  exact hk⟩
end
def nC (cs : List PV) : Prop := ∀ c ∈ cs, (ef c = false → p7 c = true) ∧ (ef c = true → OG (fun pv => p7 pv = true) c)
class Mv {α : Type} (c : α → List PV) : Prop where
 fl : ∀ x, (c x).all p7 = true
class XD {α : Type} (D : List PV → α → Prop) : Prop where
 fl : ∀ cs x, D cs x → nC cs
instance : Mv cI := ⟨fun _ => rfl⟩
instance (k : IntKind) : Mv (Wo k) := ⟨fun _ => rfl⟩
instance : Mv cB := ⟨fun _ => rfl⟩
instance : Mv cT := ⟨fun _ => rfl⟩
instance : Mv cS := ⟨fun _ => rfl⟩
theorem Hv {a : PV} (h : p7 a = true) : ef a = false := by cases a <;> first | rfl | cases h
theorem O0 : nC [] := fun c hc => absurd hc afR
theorem tJ {a : PV} {l : List PV} (t : nC l) (h : p7 a = true := by rfl) : nC (a :: l) := fun c hc => by
 rcases aed.1 hc with rfl | hc
 ·exact ⟨fun _ => h, fun q => by rw [Hv h] at q; cases q⟩
 ·exact t c hc
theorem O1 {l : List PV} (h : l.all p7 = true) : nC l := fun c hc => ⟨fun _ => aeb.1 h c hc, fun q => by rw [Hv (aeb.1 h c hc)] at q; cases q⟩
theorem aal {sz n : Nat} {e : TypeId} {f : Nat → List PV} {F : Nat → Prop} (h : ∀ i, i < n → nC (f i)) : OG (fun pv => p7 pv = true) (.bf sz n e f F) :=
 .mk sz n e f F (fun i j pv hi hj hn => (h i hi pv (aef hj)).1 hn) (fun i j _ _ _ _ _ hi hj => (h i hi _ (aef hj)).2 rfl)
theorem Hw {sz n : Nat} {e : TypeId} {f : Nat → List PV} {F : Nat → Prop} {l : List PV} (h : ∀ i, i < n → nC (f i)) (t : nC l) : nC (.bf sz n e f F :: l) := fun c hc => by
 rcases aed.1 hc with rfl | hc
 ·exact ⟨fun q => (by cases q), fun _ => aal h⟩
 ·exact t c hc
theorem B9 {α : Type} {c : α → List PV} [h : Mv c] {l : List α} {n : Nat} : ∀ i, i < n → nC (row c l i) := fun i _ => by
 by_cases hi : i < l.length
 ·rw [lp hi]; exact O1 (h.fl _)
 ·rw [show row c l i = [] by unfold row; simp [adY, aev (show (l.map c).length ≤ i by simpa using hi)]]; exact O0
instance {α : Type} (c : α → List PV) [h : Mv c] : XD (uP c) := ⟨fun cs x q => by
 have q : cs = c x := q
 subst q; exact O1 (h.fl x)⟩
theorem DR.flp {α : Type} {D : List PV → α → Prop} [hf : XD D] {n : Nat} {f : Nat → List PV} {l : List α} (d : DR D n f l) {g sz : Nat} {e : TypeId} : xJ (.row g sz n e f) := fun i hi => hf.fl _ _ (d.at_ i (by rw [d.len]; exact hi))
theorem VC : ∀ o ∈ ([] : List ak), xJ o := fun _ h => absurd h afR
theorem Ko {a : ak} {l : List ak} (h1 : xJ a) (h2 : ∀ o ∈ l, xJ o) : ∀ o ∈ a :: l, xJ o := fun o h => by
 rcases aed.1 h with rfl | h
 ·exact h1
 ·exact h2 o h
theorem xn {cs : List PV} : ∀ i, i < 1 → nJ ([cs].getD i []) ((fun _ => cs) i) := fun i hi => by
 obtain rfl : i = 0 := by omega
 exact nJ.refl _
theorem Hx : ∀ {l : List PV}, l.all bG = true → noO l = true
 | [], _ => rfl
 | a :: l, h => by
  simp only [afb, so] at h
  have := Hx h.2
  cases a <;> first | exact this | (have h1 := h.1; cases h1)
theorem lI {α : Type} {c : α → List PV} [hp : pt c] {f : Nat → List PV} {off : Nat} {l : List α} (hs : vS c f off l) : ∀ i, i < l.length → noO (f (off + i)) = true := fun i hi => by
 rw [hs i hi]; exact Hx (lr hp.pure i)
section
variable {α : Type} {D : List PV → α → Prop} {n : Nat} {f : Nat → List PV} {l q : List α} {x : α} {b : Nat}
theorem Hy (h : im b l [x] = some q) : l ++ [x] = q := (cR h).2
theorem DR.N2 (d : DR D n f l) (h : im b l [x] = some q) {cs : List PV} (hx : D cs x) : DR D q.length (bx f n cs) q := by
 have h1 := Hy h
 subst h1
 exact (d.app hx).self
theorem DR.ln (d : DR D n f l) (h : im b l [x] = some q) : q.length = n + 1 := by
 have h1 := Hy h
 subst h1
 simp [d.len]
theorem DR.lq (d : DR D n f l) (h : im b l [x] = some q) : n < q.length := by rw [d.ln h]; exact Nat.lt_succ_self n
theorem DR.YX (d : DR D n f l) (h : im b l [x] = some q) : (n + 1) * b ≤ 140737488355328 := by
 have h1 := eL h
 rw [d.len] at h1
 exact h1
end
theorem rP {α : Type} {c : α → List PV} [hp : pt c] {l : List α} {n : Nat} (hl : l.length = n) (sz : Nat) (e : TypeId) (F : Nat → Prop) : AA (.bf sz n e (row c l) F) (sl sz c l) :=
 xM (fun i hi => by rw [lp hi]; exact yV.pure (hp.pure _)) hl sz e F
end Go.Am
namespace Go.Am
open Go Go.RowKit Go.Proofs
structure TParam where
 az : aU
 Gi : Bool
 deriving DecidableEq, Inhabited
abbrev TParam.lit (x : TParam) : List PV := [.str x.az, .bool x.Gi]
def TParam.cells (x : TParam) : List PV := x.lit
theorem TParam.aA (x : TParam) : x.cells = x.lit := rfl
theorem TParam.bM (x : TParam) : x.cells.all bG = true := rfl
instance : pt TParam.cells := ⟨TParam.bM⟩
structure aL where
 a8 : Int
 fA : Int
 fB : Int
 fS : aU
 fT : aU
 deriving DecidableEq, Inhabited
abbrev aL.lit (x : aL) : List PV := [.int .i64 x.a8, .int .i64 x.fA, .int .i64 x.fB, .str x.fS, .str x.fT]
def aL.cells (x : aL) : List PV := x.lit
theorem aL.aA (x : aL) : x.cells = x.lit := rfl
theorem aL.bM (x : aL) : x.cells.all bG = true := rfl
instance : pt aL.cells := ⟨aL.bM⟩
structure aC where
 az : aU
 av : List TParam
 aM : List TParam
 ay : List aU
 eN : Bool
 ax : List aL
 deriving DecidableEq, Inhabited
abbrev aC.lit (x : aC) : List PV := [.str x.az, sl 2 TParam.cells x.av, sl 2 TParam.cells x.aM, sl 1 cS x.ay, .bool x.eN, sl 5 aL.cells x.ax]
def aC.cells (x : aC) : List PV := x.lit
theorem aC.aA (x : aC) : x.cells = x.lit := rfl
theorem aC.bM (x : aC) : x.cells.all bG = true := rfl
instance : pt aC.cells := ⟨aC.bM⟩
structure bH where
 df : Bool
 aP : Int
 aQ : aU
 deriving DecidableEq, Inhabited
abbrev bH.lit (x : bH) : List PV := [.bool x.df, .int .i64 x.aP, .str x.aQ]
def bH.cells (x : bH) : List PV := x.lit
theorem bH.aA (x : bH) : x.cells = x.lit := rfl
theorem bH.bM (x : bH) : x.cells.all bG = true := rfl
instance : pt bH.cells := ⟨bH.bM⟩
mutual
inductive ah where
 | mk (aF : Int) (aP : Int) (aQ : aU) (aO : Int) (af : List ae)
inductive ae where
 | mk (bm : bH) (aY : ah)
end
def ah.aF : ah → Int | .mk x _ _ _ _ => x
def ah.aP : ah → Int | .mk _ x _ _ _ => x
def ah.aQ : ah → aU | .mk _ _ x _ _ => x
def ah.aO : ah → Int | .mk _ _ _ x _ => x
def ah.af : ah → List ae | .mk _ _ _ _ x => x
@[simp] theorem ah.lS (a0 : Int) (a1 : Int) (a2 : aU) (a3 : Int) (a4 : List ae) : (ah.mk a0 a1 a2 a3 a4).aF = a0 := rfl
@[simp] theorem ah.uT (a0 : Int) (a1 : Int) (a2 : aU) (a3 : Int) (a4 : List ae) : (ah.mk a0 a1 a2 a3 a4).aP = a1 := rfl
@[simp] theorem ah.uU (a0 : Int) (a1 : Int) (a2 : aU) (a3 : Int) (a4 : List ae) : (ah.mk a0 a1 a2 a3 a4).aQ = a2 := rfl
@[simp] theorem ah.mW (a0 : Int) (a1 : Int) (a2 : aU) (a3 : Int) (a4 : List ae) : (ah.mk a0 a1 a2 a3 a4).aO = a3 := rfl
@[simp] theorem ah.fm (a0 : Int) (a1 : Int) (a2 : aU) (a3 : Int) (a4 : List ae) : (ah.mk a0 a1 a2 a3 a4).af = a4 := rfl
def ae.bm : ae → bH | .mk x _ => x
def ae.aY : ae → ah | .mk _ x => x
@[simp] theorem ae.AP (a0 : bH) (a1 : ah) : (ae.mk a0 a1).bm = a0 := rfl
@[simp] theorem ae.AQ (a0 : bH) (a1 : ah) : (ae.mk a0 a1).aY = a1 := rfl
instance : Inhabited ah := ⟨.mk 0 0 [] 0 []⟩
instance : Inhabited ae := ⟨.mk default default⟩
mutual
def ah.cells : ah → List PV | .mk a0 a1 a2 a3 a4 => [.int .i64 a0] ++ [.int .i64 a1] ++ [.str a2] ++ [.int .i64 a3] ++ [.gz 8 a4.length (fun i => (ae.FG a4).getD i [])]
def ae.cells : ae → List PV | .mk a0 a1 => a0.lit ++ a1.cells
def ae.FG : List ae → List (List PV) | [] => [] | x :: r => x.cells :: ae.FG r
end
theorem ae.Ca : ∀ (l : List ae), ae.FG l = l.map ae.cells
 | [] => rfl
 | a :: r => by unfold ae.FG; rw [ae.Ca r]; rfl
abbrev ah.lit (x : ah) : List PV := [.int .i64 x.aF, .int .i64 x.aP, .str x.aQ, .int .i64 x.aO, sl 8 ae.cells x.af]
abbrev ae.lit (x : ae) : List PV := [.bool x.bm.df, .int .i64 x.bm.aP, .str x.bm.aQ, .int .i64 x.aY.aF, .int .i64 x.aY.aP, .str x.aY.aQ, .int .i64 x.aY.aO, sl 8 ae.cells x.aY.af]
theorem ah.aA (x : ah) : x.cells = x.lit := by
 cases x with
 | mk a0 a1 a2 a3 a4 =>
  unfold ah.cells
  rw [ae.Ca]
  rfl
theorem ah.bM (x : ah) : x.cells.all bG = true := by rw [ah.aA]; rfl
instance : pt ah.cells := ⟨ah.bM⟩
theorem ae.aA (x : ae) : x.cells = x.lit := by
 cases x with
 | mk a0 a1 =>
  unfold ae.cells
  rw [ah.aA]
  rfl
theorem ae.bM (x : ae) : x.cells.all bG = true := by rw [ae.aA]; rfl
instance : pt ae.cells := ⟨ae.bM⟩
structure au where
 az : aU
 jv : aU
 ed : Bool
 bc : ah
 deriving Inhabited
abbrev au.lit (x : au) : List PV := [.str x.az, .str x.jv, .bool x.ed, .int .i64 x.bc.aF, .int .i64 x.bc.aP, .str x.bc.aQ, .int .i64 x.bc.aO, sl 8 ae.cells x.bc.af]
def au.cells (x : au) : List PV := x.lit
theorem au.aA (x : au) : x.cells = x.lit := rfl
theorem au.bM (x : au) : x.cells.all bG = true := rfl
instance : pt au.cells := ⟨au.bM⟩
structure aj where
 az : aU
 jv : aU
 nB : aU
 ed : Bool
 mL : Bool
 deriving DecidableEq, Inhabited
abbrev aj.lit (x : aj) : List PV := [.str x.az, .str x.jv, .str x.nB, .bool x.ed, .bool x.mL]
def aj.cells (x : aj) : List PV := x.lit
theorem aj.aA (x : aj) : x.cells = x.lit := rfl
theorem aj.bM (x : aj) : x.cells.all bG = true := rfl
instance : pt aj.cells := ⟨aj.bM⟩
structure aw where
 az : aU
 dp : aU
 aH : List au
 aE : List aj
 deriving Inhabited
abbrev aw.lit (x : aw) : List PV := [.str x.az, .str x.dp, sl 8 au.cells x.aH, sl 5 aj.cells x.aE]
def aw.cells (x : aw) : List PV := x.lit
theorem aw.aA (x : aw) : x.cells = x.lit := rfl
theorem aw.bM (x : aw) : x.cells.all bG = true := rfl
instance : pt aw.cells := ⟨aw.bM⟩
structure aN where
 a6 : List aC
 aJ : List aw
 deriving Inhabited
abbrev aN.lit (x : aN) : List PV := [sl 6 aC.cells x.a6, sl 4 aw.cells x.aJ]
def aN.cells (x : aN) : List PV := x.lit
theorem aN.aA (x : aN) : x.cells = x.lit := rfl
theorem aN.bM (x : aN) : x.cells.all bG = true := rfl
instance : pt aN.cells := ⟨aN.bM⟩
structure fV where
 fB : List UInt8
 deriving DecidableEq, Inhabited
abbrev fV.lit (x : fV) : List PV := [sl 1 cB x.fB]
def fV.cells (x : fV) : List PV := x.lit
theorem fV.aA (x : fV) : x.cells = x.lit := rfl
theorem fV.bM (x : fV) : x.cells.all bG = true := rfl
instance : pt fV.cells := ⟨fV.bM⟩
structure dc where
 fB : List UInt8
 dy : Int
 deriving DecidableEq, Inhabited
abbrev dc.lit (x : dc) : List PV := [sl 1 cB x.fB, .int .i64 x.dy]
def dc.cells (x : dc) : List PV := x.lit
theorem dc.aA (x : dc) : x.cells = x.lit := rfl
theorem dc.bM (x : dc) : x.cells.all bG = true := rfl
instance : pt dc.cells := ⟨dc.bM⟩
structure aI where
 fB : List UInt8
 dy : Int
 db : Bool
 deriving DecidableEq, Inhabited
abbrev aI.lit (x : aI) : List PV := [sl 1 cB x.fB, .int .i64 x.dy, .bool x.db]
def aI.cells (x : aI) : List PV := x.lit
theorem aI.aA (x : aI) : x.cells = x.lit := rfl
theorem aI.bM (x : aI) : x.cells.all bG = true := rfl
instance : pt aI.cells := ⟨aI.bM⟩
structure ao where
 fS : aU
 dy : Int
 db : Bool
 deriving DecidableEq, Inhabited
abbrev ao.lit (x : ao) : List PV := [.str x.fS, .int .i64 x.dy, .bool x.db]
def ao.cells (x : ao) : List PV := x.lit
theorem ao.aA (x : ao) : x.cells = x.lit := rfl
theorem ao.bM (x : ao) : x.cells.all bG = true := rfl
instance : pt ao.cells := ⟨ao.bM⟩
instance : Mv ao.cells := ⟨fun _ => rfl⟩
instance : Mv TParam.cells := ⟨fun _ => rfl⟩
instance : Mv aL.cells := ⟨fun _ => rfl⟩
instance : Mv aj.cells := ⟨fun _ => rfl⟩
instance : Mv bH.cells := ⟨fun _ => rfl⟩
inductive aC.D : List PV → aC → Prop
 | mk (x : aC) (n0 : Nat) (F0 : Nat → Prop) (tN : x.av.length = n0) (n1 : Nat) (F1 : Nat → Prop) (C8 : x.aM.length = n1) (n2 : Nat) (F2 : Nat → Prop) (E7 : x.ay.length = n2) (n3 : Nat) (F3 : Nat → Prop) (hl3 : x.ax.length = n3) : aC.D [.str x.az, .bf 2 n0 61 (row TParam.cells x.av) F0, .bf 2 n1 61 (row TParam.cells x.aM) F1, .bf 1 n2 9 (row cS x.ay) F2, .bool x.eN, .bf 5 n3 64 (row aL.cells x.ax) F3] x
theorem aC.Ad {x : aC} {n0 : Nat} {F0 : Nat → Prop} {n1 : Nat} {F1 : Nat → Prop} {n2 : Nat} {F2 : Nat → Prop} {n3 : Nat} {F3 : Nat → Prop} (d0 : x.av.length = n0) (d1 : x.aM.length = n1) (d2 : x.ay.length = n2) (d3 : x.ax.length = n3) : aC.D [.str x.az, .bf 2 n0 61 (row TParam.cells x.av) F0, .bf 2 n1 61 (row TParam.cells x.aM) F1, .bf 1 n2 9 (row cS x.ay) F2, .bool x.eN, .bf 5 n3 64 (row aL.cells x.ax) F3] x := .mk x _ _ d0 _ _ d1 _ _ d2 _ _ d3
theorem aC.A8 {cs : List PV} {x : aC} (h : aC.D cs x) : ∃ (F0 : Nat → Prop), ∃ (F1 : Nat → Prop), ∃ (F2 : Nat → Prop), ∃ (F3 : Nat → Prop), cs = [.str x.az, .bf 2 x.av.length 61 (row TParam.cells x.av) F0, .bf 2 x.aM.length 61 (row TParam.cells x.aM) F1, .bf 1 x.ay.length 9 (row cS x.ay) F2, .bool x.eN, .bf 5 x.ax.length 64 (row aL.cells x.ax) F3] := by
 cases h with
 | mk _ n0 F0 tN n1 F1 C8 n2 F2 E7 n3 F3 hl3 => subst tN; subst C8; subst E7; subst hl3; exact ⟨F0, F1, F2, F3, rfl⟩
theorem aC.xN : ∀ cs x, aC.D cs x → yV cs x.cells := fun cs x h => aC.D.rec (motive := fun cs x _ => yV cs x.cells) (fun x n0 F0 tN n1 F1 C8 n2 F2 E7 n3 F3 hl3 => by rw [aC.aA]; exact ⟨.p rfl, .o (rP tN 2 61 F0), .o (rP C8 2 61 F1), .o (rP E7 1 9 F2), .p rfl, .o (rP hl3 5 64 F3), trivial⟩) h
instance : KH aC.D aC.cells := ⟨aC.xN⟩
theorem aC.sS : ∀ cs x, aC.D cs x → nC cs := fun cs x h => aC.D.rec (motive := fun cs x _ => nC cs) (fun x n0 F0 tN n1 F1 C8 n2 F2 E7 n3 F3 hl3 => (tJ (Hw B9 (Hw B9 (Hw B9 (tJ (Hw B9 O0))))))) h
instance : XD aC.D := ⟨aC.sS⟩
inductive ae.D : List PV → ae → Prop
 | mk (x : ae) (n0 : Nat) (F0 : Nat → Prop) (tN : x.aY.af.length = n0) (f0 : Nat → List PV) (h0 : ∀ i (hi : i < x.aY.af.length), ae.D (f0 i) x.aY.af[i]) (KJ : ∀ i, n0 ≤ i → f0 i = []) : ae.D [.bool x.bm.df, .int .i64 x.bm.aP, .str x.bm.aQ, .int .i64 x.aY.aF, .int .i64 x.aY.aP, .str x.aY.aQ, .int .i64 x.aY.aO, .bf 8 n0 197 f0 F0] x
theorem ae.Ad {x : ae} {n0 : Nat} {F0 : Nat → Prop} {f0 : Nat → List PV} (d0 : DR ae.D n0 f0 x.aY.af) : ae.D [.bool x.bm.df, .int .i64 x.bm.aP, .str x.bm.aQ, .int .i64 x.aY.aF, .int .i64 x.aY.aP, .str x.aY.aQ, .int .i64 x.aY.aO, .bf 8 n0 197 f0 F0] x := .mk x _ _ d0.len _ d0.at_ d0.z
theorem ae.A8 {cs : List PV} {x : ae} (h : ae.D cs x) : ∃ (F0 : Nat → Prop), ∃ f0 : Nat → List PV, cs = [.bool x.bm.df, .int .i64 x.bm.aP, .str x.bm.aQ, .int .i64 x.aY.aF, .int .i64 x.aY.aP, .str x.aY.aQ, .int .i64 x.aY.aO, .bf 8 x.aY.af.length 197 f0 F0] ∧ DR ae.D x.aY.af.length f0 x.aY.af := by
 cases h with
 | mk _ n0 F0 tN f0 h0 KJ => subst tN; exact ⟨F0, f0, rfl, ⟨rfl, h0, KJ⟩⟩
theorem ae.xN : ∀ cs x, ae.D cs x → yV cs x.cells := fun cs x h => ae.D.rec (motive := fun cs x _ => yV cs x.cells) (fun x n0 F0 tN f0 h0 KJ ih0 => by rw [ae.aA]; exact ⟨.p rfl, .p rfl, .p rfl, .p rfl, .p rfl, .p rfl, .p rfl, .o (xM ih0 tN 8 197 F0), trivial⟩) h
instance : KH ae.D ae.cells := ⟨ae.xN⟩
theorem ae.sS : ∀ cs x, ae.D cs x → nC cs := fun cs x h => ae.D.rec (motive := fun cs x _ => nC cs) (fun x n0 F0 tN f0 h0 KJ ih0 => (tJ (tJ (tJ (tJ (tJ (tJ (tJ (Hw (fun i hi => ih0 i (afJ hi tN.symm)) O0))))))))) h
instance : XD ae.D := ⟨ae.sS⟩
inductive au.D : List PV → au → Prop
 | mk (x : au) (n0 : Nat) (F0 : Nat → Prop) (tN : x.bc.af.length = n0) (f0 : Nat → List PV) (h0 : ∀ i (hi : i < x.bc.af.length), ae.D (f0 i) x.bc.af[i]) (KJ : ∀ i, n0 ≤ i → f0 i = []) : au.D [.str x.az, .str x.jv, .bool x.ed, .int .i64 x.bc.aF, .int .i64 x.bc.aP, .str x.bc.aQ, .int .i64 x.bc.aO, .bf 8 n0 197 f0 F0] x
theorem au.Ad {x : au} {n0 : Nat} {F0 : Nat → Prop} {f0 : Nat → List PV} (d0 : DR ae.D n0 f0 x.bc.af) : au.D [.str x.az, .str x.jv, .bool x.ed, .int .i64 x.bc.aF, .int .i64 x.bc.aP, .str x.bc.aQ, .int .i64 x.bc.aO, .bf 8 n0 197 f0 F0] x := .mk x _ _ d0.len _ d0.at_ d0.z
theorem au.A8 {cs : List PV} {x : au} (h : au.D cs x) : ∃ (F0 : Nat → Prop), ∃ f0 : Nat → List PV, cs = [.str x.az, .str x.jv, .bool x.ed, .int .i64 x.bc.aF, .int .i64 x.bc.aP, .str x.bc.aQ, .int .i64 x.bc.aO, .bf 8 x.bc.af.length 197 f0 F0] ∧ DR ae.D x.bc.af.length f0 x.bc.af := by
 cases h with
 | mk _ n0 F0 tN f0 h0 KJ => subst tN; exact ⟨F0, f0, rfl, ⟨rfl, h0, KJ⟩⟩
theorem au.xN : ∀ cs x, au.D cs x → yV cs x.cells := fun cs x h => au.D.rec (motive := fun cs x _ => yV cs x.cells) (fun x n0 F0 tN f0 h0 KJ => by rw [au.aA]; exact ⟨.p rfl, .p rfl, .p rfl, .p rfl, .p rfl, .p rfl, .p rfl, .o (xM (fun i hi => ae.xN _ _ (h0 i hi)) tN 8 197 F0), trivial⟩) h
instance : KH au.D au.cells := ⟨au.xN⟩
theorem au.sS : ∀ cs x, au.D cs x → nC cs := fun cs x h => au.D.rec (motive := fun cs x _ => nC cs) (fun x n0 F0 tN f0 h0 KJ => (tJ (tJ (tJ (tJ (tJ (tJ (tJ (Hw (fun i hi => ae.sS _ _ (h0 i (afJ hi tN.symm))) O0))))))))) h
instance : XD au.D := ⟨au.sS⟩
inductive aw.D : List PV → aw → Prop
 | mk (x : aw) (n0 : Nat) (F0 : Nat → Prop) (tN : x.aH.length = n0) (f0 : Nat → List PV) (h0 : ∀ i (hi : i < x.aH.length), au.D (f0 i) x.aH[i]) (KJ : ∀ i, n0 ≤ i → f0 i = []) (n1 : Nat) (F1 : Nat → Prop) (C8 : x.aE.length = n1) : aw.D [.str x.az, .str x.dp, .bf 8 n0 99 f0 F0, .bf 5 n1 106 (row aj.cells x.aE) F1] x
theorem aw.Ad {x : aw} {n0 : Nat} {F0 : Nat → Prop} {f0 : Nat → List PV} {n1 : Nat} {F1 : Nat → Prop} (d0 : DR au.D n0 f0 x.aH) (d1 : x.aE.length = n1) : aw.D [.str x.az, .str x.dp, .bf 8 n0 99 f0 F0, .bf 5 n1 106 (row aj.cells x.aE) F1] x := .mk x _ _ d0.len _ d0.at_ d0.z _ _ d1
theorem aw.A8 {cs : List PV} {x : aw} (h : aw.D cs x) : ∃ (F0 : Nat → Prop), ∃ f0 : Nat → List PV, ∃ (F1 : Nat → Prop), cs = [.str x.az, .str x.dp, .bf 8 x.aH.length 99 f0 F0, .bf 5 x.aE.length 106 (row aj.cells x.aE) F1] ∧ DR au.D x.aH.length f0 x.aH := by
 cases h with
 | mk _ n0 F0 tN f0 h0 KJ n1 F1 C8 => subst tN; subst C8; exact ⟨F0, f0, F1, rfl, ⟨rfl, h0, KJ⟩⟩
theorem aw.xN : ∀ cs x, aw.D cs x → yV cs x.cells := fun cs x h => aw.D.rec (motive := fun cs x _ => yV cs x.cells) (fun x n0 F0 tN f0 h0 KJ n1 F1 C8 => by rw [aw.aA]; exact ⟨.p rfl, .p rfl, .o (xM (fun i hi => au.xN _ _ (h0 i hi)) tN 8 99 F0), .o (rP C8 5 106 F1), trivial⟩) h
instance : KH aw.D aw.cells := ⟨aw.xN⟩
theorem aw.sS : ∀ cs x, aw.D cs x → nC cs := fun cs x h => aw.D.rec (motive := fun cs x _ => nC cs) (fun x n0 F0 tN f0 h0 KJ n1 F1 C8 => (tJ (tJ (Hw (fun i hi => au.sS _ _ (h0 i (afJ hi tN.symm))) (Hw B9 O0))))) h
instance : XD aw.D := ⟨aw.sS⟩
theorem TParam.n8 (x y : TParam) : ((x.az == y.az) && ((x.Gi == y.Gi) && true)) = decide (x = y) := by
 rw [aeA]
 simp only [so, beq_iff_eq, afj, decide_eq_true_eq]
 constructor
 ·intro h
  cases x; cases y
  simp only [TParam.mk.injEq]
  simpa using h
 ·rintro rfl
  simp
theorem aL.n8 (x y : aL) : ((x.a8 == y.a8) && ((x.fA == y.fA) && ((x.fB == y.fB) && ((x.fS == y.fS) && ((x.fT == y.fT) && true))))) = decide (x = y) := by
 rw [aeA]
 simp only [so, beq_iff_eq, afj, decide_eq_true_eq]
 constructor
 ·intro h
  cases x; cases y
  simp only [aL.mk.injEq]
  simpa using h
 ·rintro rfl
  simp
theorem aj.n8 (x y : aj) : ((x.az == y.az) && ((x.jv == y.jv) && ((x.nB == y.nB) && ((x.ed == y.ed) && ((x.mL == y.mL) && true))))) = decide (x = y) := by
 rw [aeA]
 simp only [so, beq_iff_eq, afj, decide_eq_true_eq]
 constructor
 ·intro h
  cases x; cases y
  simp only [aj.mk.injEq]
  simpa using h
 ·rintro rfl
  simp
theorem ao.n8 (x y : ao) : ((x.fS == y.fS) && ((x.dy == y.dy) && ((x.db == y.db) && true))) = decide (x = y) := by
 rw [aeA]
 simp only [so, beq_iff_eq, afj, decide_eq_true_eq]
 constructor
 ·intro h
  cases x; cases y
  simp only [ao.mk.injEq]
  simpa using h
 ·rintro rfl
  simp
theorem bH.n8 (x y : bH) : ((x.df == y.df) && ((x.aP == y.aP) && ((x.aQ == y.aQ) && true))) = decide (x = y) := by
 rw [aeA]
 simp only [so, beq_iff_eq, afj, decide_eq_true_eq]
 constructor
 ·intro h
  cases x; cases y
  simp only [bH.mk.injEq]
  simpa using h
 ·rintro rfl
  simp
def wk : pr := vQ [(3, .int .i64),
 (4, .bool),
 (5, .int .u8),
 (9, .str),
 (22, .slice 89 6 120 [.str [], .aq, .aq, .aq, .bool false, .aq]),
 (23, .slice 94 4 80 [.str [], .str [], .aq, .aq]),
 (25, .struct 2 [(0, 1, false), (1, 1, false)] [.aq, .aq]),
 (27, .slice 5 1 1 [.int .u8 0]),
 (30, .slice 57 6 120 [.str [], .aq, .aq, .aq, .bool false, .aq]),
 (31, .slice 68 4 80 [.str [], .str [], .aq, .aq]),
 (33, .struct 2 [(0, 1, false), (1, 1, false)] [.aq, .aq]),
 (51, .struct 1 [(0, 1, false)] [.aq]),
 (53, .slice 61 2 24 [.str [], .bool false]),
 (54, .slice 9 1 16 [.str []]),
 (55, .slice 64 5 56 [.int .i64 0, .int .i64 0, .int .i64 0, .str [], .str []]),
 (57, .struct 6 [(0, 1, false), (1, 1, false), (2, 1, false), (3, 1, false), (4, 1, false), (5, 1, false)] [.str [], .aq, .aq, .aq, .bool false, .aq]),
 (59, .slice 53 1 24 [.aq]),
 (61, .struct 2 [(0, 1, false), (1, 1, false)] [.str [], .bool false]),
 (64, .struct 5 [(0, 1, false), (1, 1, false), (2, 1, false), (3, 1, false), (4, 1, false)] [.int .i64 0, .int .i64 0, .int .i64 0, .str [], .str []]),
 (65, .slice 99 8 104 [.str [], .str [], .bool false, .int .i64 0, .int .i64 0, .str [], .int .i64 0, .aq]),
 (66, .slice 106 5 56 [.str [], .str [], .str [], .bool false, .bool false]),
 (68, .struct 4 [(0, 1, false), (1, 1, false), (2, 1, false), (3, 1, false)] [.str [], .str [], .aq, .aq]),
 (75, .struct 2 [(0, 1, false), (1, 1, false)] [.aq, .int .i64 0]),
 (81, .struct 3 [(0, 1, false), (1, 1, false), (2, 1, false)] [.aq, .int .i64 0, .bool false]),
 (86, .slice 176 2 24 [.str [], .bool false]),
 (87, .slice 178 5 56 [.int .i64 0, .int .i64 0, .int .i64 0, .str [], .str []]),
 (89, .struct 6 [(0, 1, false), (1, 1, false), (2, 1, false), (3, 1, false), (4, 1, false), (5, 1, false)] [.str [], .aq, .aq, .aq, .bool false, .aq]),
 (91, .slice 184 8 104 [.str [], .str [], .bool false, .int .i64 0, .int .i64 0, .str [], .int .i64 0, .aq]),
 (92, .slice 186 5 56 [.str [], .str [], .str [], .bool false, .bool false]),
 (94, .struct 4 [(0, 1, false), (1, 1, false), (2, 1, false), (3, 1, false)] [.str [], .str [], .aq, .aq]),
 (95, .slice 197 8 96 [.bool false, .int .i64 0, .str [], .int .i64 0, .int .i64 0, .str [], .int .i64 0, .aq]),
 (97, .struct 5 [(0, 1, false), (1, 1, false), (2, 1, false), (3, 1, false), (4, 1, false)] [.int .i64 0, .int .i64 0, .str [], .int .i64 0, .aq]),
 (99, .struct 8 [(0, 1, false), (1, 1, false), (2, 1, false), (3, 5, true)] [.str [], .str [], .bool false, .int .i64 0, .int .i64 0, .str [], .int .i64 0, .aq]),
 (106, .struct 5 [(0, 1, false), (1, 1, false), (2, 1, false), (3, 1, false), (4, 1, false)] [.str [], .str [], .str [], .bool false, .bool false]),
 (112, .map 9 3 (.int .i64 0)),
 (114, .map 9 4 (.bool false)),
 (144, .slice 3 1 8 [.int .i64 0]),
 (172, .struct 3 [(0, 1, false), (1, 1, false), (2, 1, false)] [.str [], .int .i64 0, .bool false]),
 (176, .struct 2 [(0, 1, false), (1, 1, false)] [.str [], .bool false]),
 (178, .struct 5 [(0, 1, false), (1, 1, false), (2, 1, false), (3, 1, false), (4, 1, false)] [.int .i64 0, .int .i64 0, .int .i64 0, .str [], .str []]),
 (180, .slice 239 8 96 [.bool false, .int .i64 0, .str [], .int .i64 0, .int .i64 0, .str [], .int .i64 0, .aq]),
 (182, .struct 5 [(0, 1, false), (1, 1, false), (2, 1, false), (3, 1, false), (4, 1, false)] [.int .i64 0, .int .i64 0, .str [], .int .i64 0, .aq]),
 (184, .struct 8 [(0, 1, false), (1, 1, false), (2, 1, false), (3, 5, true)] [.str [], .str [], .bool false, .int .i64 0, .int .i64 0, .str [], .int .i64 0, .aq]),
 (186, .struct 5 [(0, 1, false), (1, 1, false), (2, 1, false), (3, 1, false), (4, 1, false)] [.str [], .str [], .str [], .bool false, .bool false]),
 (195, .struct 3 [(0, 1, false), (1, 1, false), (2, 1, false)] [.bool false, .int .i64 0, .str []]),
 (197, .struct 8 [(0, 3, true), (3, 5, true)] [.bool false, .int .i64 0, .str [], .int .i64 0, .int .i64 0, .str [], .int .i64 0, .aq]),
 (208, .map 195 4 (.bool false)),
 (237, .struct 3 [(0, 1, false), (1, 1, false), (2, 1, false)] [.bool false, .int .i64 0, .str []]),
 (239, .struct 8 [(0, 3, true), (3, 5, true)] [.bool false, .int .i64 0, .str [], .int .i64 0, .int .i64 0, .str [], .int .i64 0, .aq])]
theorem Rt : dJ Tryz.prog wk := Z6 ahA
theorem mixed : Tryz.prog.follows .mixedOrders = true := by kernel_rfl
theorem dx {f : FuncId} {fn : Func} {c : Code} {args : List PV} {h : List ak} {R : PV → List ak → Prop} (hf : Tryz.prog.funcs[f]? = some fn) (hv : vc Tryz.prog wk h.length c (aam wk fn.results.toList h.length R) (uB args) h) (hb : fn.body = some c := by rfl) (xO : (fn.name == "runtime.NumGoroutine") = false := by kernel_rfl) (hn : Nat.ble args.length fn.ntmps = true := by rfl) (yi : codeOk fn.ntmps c = true := by kernel_rfl) : ACall Tryz.prog f args h R := ACall.aan Rt mixed hf hb xO _ _ _ hn yi hv
theorem ACall.ext {P : Program} {f : FuncId} {args : List PV} {r : PV} (yi : aao P f)
  (H : ∀ (w : World) (vs : Array Value) (S : Nat → Prop), LI S w → (∀ b, S b → b < w.heap.size) → vs.size = args.length → (∀ (j : Nat) (pv : PV), args[j]? = some pv → ∃ v, vs[j]? = some v ∧ aV S w pv v) →
   Calls P f vs w (fun e w' => ∃ v, e = .returned v ∧ (∀ μ h S w, bN μ h S w r v) ∧ Below w.heap.size w w'))
  (hp : args.all xP = true) (h : List ak) : ACall P f args h (fun res h' => res = r ∧ h' = h) := by
 refine ⟨yi, fun w vs μ S hH hM jl ha => (H w vs S hM.known hM.slt jl (fun j pv hj => ?_)).mono ?_⟩
 ·obtain ⟨v, h1, h2⟩ := ha j pv hj
  have h3 := aeb.1 hp pv (aef hj)
  cases pv <;> first | exact ⟨v, h1, h2⟩ | (simp [xP] at h3)
 ·rintro e w' ⟨v, rfl, hv, hb⟩
  have ag : cP w w' := ⟨hb.block, hb.size, hb.os, hb.tape, hb.output⟩
  exact ⟨v, r, h, μ, S, rfl, ⟨rfl, rfl⟩, hv _ _ _ _, hH.agree ag hM, hM.agree ag, Fr.xQ ag⟩
theorem aap {vs : Array Value} {a : Value} (hs : vs.size = 1) (h0 : vs[0]? = some a) : vs = #[a] := by
 obtain ⟨l⟩ := vs
 rcases l with _ | ⟨b, _ | ⟨c, l⟩⟩ <;> simp at hs
 simp at h0; subst h0; rfl
theorem aaq {vs : Array Value} {a b : Value} (hs : vs.size = 2) (h0 : vs[0]? = some a) (h1 : vs[1]? = some b) : vs = #[a, b] := by
 obtain ⟨l⟩ := vs
 rcases l with _ | ⟨x, _ | ⟨y, _ | ⟨z, l⟩⟩⟩ <;> simp at hs
 simp at h0 h1; subst h0; subst h1; rfl
theorem aar {vs : Array Value} {a b c : Value} (hs : vs.size = 3) (h0 : vs[0]? = some a) (h1 : vs[1]? = some b) (h2 : vs[2]? = some c) : vs = #[a, b, c] := by
 obtain ⟨l⟩ := vs
 rcases l with _ | ⟨x, _ | ⟨y, _ | ⟨z, _ | ⟨u, l⟩⟩⟩⟩ <;> simp at hs
 simp at h0 h1 h2; subst h0; subst h1; subst h2; rfl
theorem Jv {P : Program} {w : World} {n : String} {g : Nat} {cs : Array Value} {t : TypeId} {z : Nat × Nat} (hg : P.globalNamed n = some g) (h : w.heap[g]? = some (.cells cs t z)) : w.var? P n = some cs := by
 unfold World.var?
 rw [hg]
 simp [h]
theorem Wi : Tryz.prog.globalNamed "internal/strconv.uint64pow10" = some 0 := by kernel_rfl
theorem Wj : Tryz.prog.globalNamed "strconv.ErrSyntax" = some 1 := by kernel_rfl
theorem Wk : Tryz.prog.globalNamed "strconv.ErrRange" = some 2 := by kernel_rfl
theorem O2 : Lib.pow10Tab = Hq := by decide
theorem KK {S : Nat → Prop} {w : World} (h : LI S w) : Lib.TabIs Tryz.prog w "internal/strconv.uint64pow10" .u64 Lib.pow10Tab := by
 obtain ⟨_, t, z, hh⟩ := h.1 (0, _) (by simp [FD]; rfl)
 unfold Lib.TabIs
 rw [Jv Wi hh, O2]
theorem Ru {S : Nat → Prop} {w : World} (h : LI S w) : ∃ tp p, w.var? Tryz.prog "strconv.ErrSyntax" = some #[.iface tp p] := by
 obtain ⟨_, tp, p, t, z, hh⟩ := h.2.1 1 (by simp [xI])
 exact ⟨tp, p, Jv Wj hh⟩
theorem Rw {S : Nat → Prop} {w : World} (h : LI S w) : ∃ tp p, w.var? Tryz.prog "strconv.ErrRange" = some #[.iface tp p] := by
 obtain ⟨_, tp, p, t, z, hh⟩ := h.2.1 2 (by simp [xI])
 exact ⟨tp, p, Jv Wk hh⟩
theorem Cb (w : World) (k : Nat) (os : Array Obj) : Below w.heap.size w (Sort.grow (w.drewN k) os) := by
 refine ⟨rfl, rfl, rfl, ?_, fun i hi => ?_⟩
 ·show w.heap.size ≤ (w.heap ++ os).size
  simp
 ·show (w.heap ++ os)[i]? = w.heap[i]?
  rw [aeH hi]
theorem Rx (n : Int) (h0 : -9223372036854775808 ≤ n) (h1 : n ≤ 9223372036854775807) (h : List ak) : ACall Tryz.prog 188 [.int .i64 n] h (fun res h' => res = .str (Lib.itoa n) ∧ h' = h) := by
 refine ACall.ext ⟨_, _, Tryz.func188, rfl, by kernel_rfl⟩ (fun w vs S ha hS jl hj => ?_) rfl h
 obtain ⟨v, hv, hp⟩ := hj 0 _ rfl
 cases hp
 obtain rfl := aap jl hv
 refine (Tryz.strconv_Itoa n h0 h1 w (KK ha)).mono ?_
 rintro e w' ⟨rfl, k, os, rfl⟩
 exact ⟨_, rfl, fun _ _ _ _ => .str _, Cb _ _ _⟩
theorem FH (s p : List UInt8) (h : List ak) : ACall Tryz.prog 113 [.str s, .str p] h (fun res h' => res = .bool (Lib.hasPrefix s p) ∧ h' = h) := by
 refine ACall.ext ⟨_, _, Tryz.func113, rfl, by kernel_rfl⟩ (fun w vs S ha hS jl hj => ?_) rfl h
 obtain ⟨v, hv, hp⟩ := hj 0 _ rfl
 cases hp
 obtain ⟨v', hv', vK⟩ := hj 1 _ rfl
 cases vK
 obtain rfl := aaq jl hv hv'
 refine (Tryz.strings_HasPrefix ⟨⟨s⟩⟩ ⟨⟨p⟩⟩ w).mono ?_
 rintro e w' ⟨rfl, rfl⟩
 exact ⟨_, rfl, fun _ _ _ _ => .bool _, Below.refl _ _⟩
def pw (s : List UInt8) (lo hi : Int) : Option Int :=
 if 20 < s.length then none else match Lib.atoiAll s with
  | .ok n => if Lib.itoa n = s ∧ lo ≤ n ∧ n ≤ hi then some n else none
  | _ => none
def pwR (o : Option Int) : PV := match o with | some n => .fu [.int .i64 n, .bool true] | none => .fu [.int .i64 0, .bool false]
def pwV (o : Option Int) : Value := match o with | some n => .tuple #[.int .i64 n, .bool true] | none => .tuple #[.int .i64 0, .bool false]
set_option maxRecDepth 100000 in
theorem xR (s : ByteArray) (lo hi : Int) (w : World) (S : Nat → Prop) (ha : LI S w) (hS : ∀ b, S b → b < w.heap.size) :
  Calls Tryz.prog 190 #[.string s, .int .i64 lo, .int .i64 hi] w fun e w' => e = .returned (pwV (pw s.data.toList lo hi)) ∧ Below w.heap.size w w' := by
 have hlen : s.data.toList.length = s.size := rfl
 by_cases hl : 20 < s.size
 ·have e0 : pw s.data.toList lo hi = none := by unfold pw; rw [if_pos ahw]
  rw [e0]
  go_enter Tryz.func190, Tryz.ntmps190
  go_wp2
  go_ret2
  exact ⟨rfl, Below.refl _ _⟩
 ·cases h : Lib.atoiAll s.data.toList with
  | range =>
   have e0 : pw s.data.toList lo hi = none := by unfold pw; rw [if_neg ahw, h]
   rw [e0]
   obtain ⟨tp, p, hv⟩ := Rw ha
   go_enter Tryz.func190, Tryz.ntmps190
   go_wp2_with (go_at_call 199; refine (Tryz.strconv_Atoi_range_var s ahw h tp p _ hv).mono ?_; rintro e w1 ⟨N, rfl, -, -, hb⟩)
   go_ret2
   exact ⟨rfl, hb⟩
  | ok n =>
   obtain ⟨b0, b1⟩ := Lib.atoiAll_bounds h
   have key : ∀ (r : Value) (w1 w2 : World), ((w1 = w ∨ ∃ t, w1 = Lib.bytesWorld w 5 t) → Below w.heap.size w w1) := fun r w1 w2 hb => by
    rcases hb with rfl | ⟨t, rfl⟩
    ·exact Below.refl _ _
    ·exact Lib.bytesWorld_below _ _ _
   go_enter Tryz.func190, Tryz.ntmps190
   go_wp2_with (go_at_call 199; refine (Tryz.strconv_Atoi_ok s ahw n h _).mono ?_; rintro e w1 ⟨rfl, hb⟩)
   go_wp2_with (go_at_call 188; refine (Tryz.strconv_Itoa n b0 b1 _ (KK (ha.BI (fun b oI => (key undef _ w hb).block b (hS b oI)) (fun _ hb => hb)))).mono ?_; rintro e w2 ⟨rfl, k, os, rfl⟩)
   all_goals go_ret2
   all_goals refine ⟨?_, (key undef _ w hb).trans ((Cb _ _ _).mono (key undef _ w hb).size)⟩
   all_goals
    have ht : s.toList = s.data.toList := ByteArray.toList_eq s
    have pe : pw s.data.toList lo hi = if Lib.itoa n = s.data.toList ∧ lo ≤ n ∧ n ≤ hi then some n else none := by
     unfold pw; rw [if_neg ahw, h]
    rw [pe, ← ht]
    clear ht pe h
    split
    ·rename_i hc
     first
      | rfl
      | (exfalso; obtain ⟨c1, c2, c3⟩ := hc; first | omega | contradiction)
    ·rename_i hc
     first
      | rfl
      | (exfalso; apply hc; refine ⟨?_, ?_, ?_⟩ <;> first | assumption | omega)
  | _ =>
   have e0 : pw s.data.toList lo hi = none := by unfold pw; rw [if_neg ahw, h]
   rw [e0]
   obtain ⟨tp, p, hv⟩ := Ru ha
   go_enter Tryz.func190, Tryz.ntmps190
   go_wp2_with (go_at_call 199; refine (Tryz.strconv_Atoi_syntax_var s ahw h tp p _ hv).mono ?_; rintro e w1 ⟨N, rfl, -, -, hb⟩)
   go_ret2
   exact ⟨rfl, hb⟩
theorem Cc (s : List UInt8) (lo hi : Int) (h : List ak) : ACall Tryz.prog 190 [.str s, .int .i64 lo, .int .i64 hi] h (fun res h' => res = pwR (pw s lo hi) ∧ h' = h) := by
 refine ACall.ext ⟨_, _, Tryz.func190, rfl, by kernel_rfl⟩ (fun w vs S ha hS jl hj => ?_) rfl h
 obtain ⟨v0, Dk, hp0⟩ := hj 0 _ rfl
 cases hp0
 obtain ⟨v1, hv1, NC⟩ := hj 1 _ rfl
 cases NC
 obtain ⟨v2, rq, Mj⟩ := hj 2 _ rfl
 cases Mj
 obtain rfl := aar jl Dk hv1 rq
 refine (xR ⟨⟨s⟩⟩ lo hi w S ha hS).mono ?_
 rintro e w' ⟨rfl, hb⟩
 refine ⟨_, rfl, fun μ h S w => ?_, hb⟩
 show bN μ h S w (pwR (pw s lo hi)) (pwV (pw s lo hi))
 cases pw s lo hi with
 | some n =>
  refine ⟨_, rfl, rfl, fun j pv hj => ?_⟩
  match j with
  | 0 => cases hj; exact ⟨_, rfl, .int _ _⟩
  | 1 => cases hj; exact ⟨_, rfl, .bool _⟩
  | j + 2 => simp at hj
 | none =>
  refine ⟨_, rfl, rfl, fun j pv hj => ?_⟩
  match j with
  | 0 => cases hj; exact ⟨_, rfl, .int _ _⟩
  | 1 => cases hj; exact ⟨_, rfl, .bool _⟩
  | j + 2 => simp at hj
def Nw (s : aU) (lo hi : Int) : Option (Int × Bool) := match pw s lo hi with | some n => some (n, true) | none => some (0, false)
theorem YL {s : aU} {lo hi : Int} {r : Int × Bool} (h : Nw s lo hi = some r) : ACall Tryz.prog 190 [.str s, .int .i64 lo, .int .i64 hi] [] (fun res h => res = .fu [.int .i64 r.1, .bool r.2] ∧ h = []) := by
 refine (Cc s lo hi []).mono ?_
 rintro _ _ ⟨rfl, rfl⟩
 unfold Nw at h
 split at h
 ·rename_i n e; rw [e]; cases h; exact ⟨rfl, rfl⟩
 ·rename_i e; rw [e]; cases h; exact ⟨rfl, rfl⟩
def m73 (n : Int) : Option aU := if -9223372036854775808 ≤ n ∧ n ≤ 9223372036854775807 then some (Lib.itoa n) else none
theorem ab7 {n : Int} {r : aU} (h : m73 n = some r) : ACall Tryz.prog 188 [.int .i64 n] [] (fun res h => res = .str r ∧ h = []) := by
 obtain ⟨⟨h0, h1⟩, rfl⟩ := cR h
 exact Rx n h0 h1 []
def Un (s p : aU) : Option Bool := some (Lib.hasPrefix s p)
theorem X2 {s p : aU} {r : Bool} (h : Un s p = some r) : ACall Tryz.prog 113 [.str s, .str p] [] (fun res h => res = .bool r ∧ h = []) := by
 cases h
 exact FH s p []
set_option maxRecDepth 20000
section
variable {P : Program} {H : Type} {enc : TypeId × Value → H} {w : World} {spare : Nat → Bool} {held : Bool} {S : Nat → Prop}
end
theorem Jw {S : Nat → Prop} {w : World} {sz n : Nat} {f g : Nat → List PV} {v : Value} (h : aV S w (.gz sz n f) v) (e : ∀ i, i < n → f i = g i) : aV S w (.gz sz n g) v := by
 cases h with
 | qj => exact .qj _ _ _ _
 | gz _ _ _ b off c vf hS hlen hc bw nH =>
  exact .gz sz n g b off c vf hS (fun i hi => by rw [← e i hi]; exact hlen i hi) hc (fun i j pv hi hj => bw i j pv hi (by rw [e i hi]; exact hj)) (fun i j pv hi hj => nH i j pv hi (by rw [e i hi]; exact hj))
section
variable {H : Type} {enc : TypeId × Value → H} {w : World} {spare : Nat → Bool} {held : Bool} {S : Nat → Prop}
structure TParam.Ok (a : TParam) : Prop where
 h0 : a.az.length ≤ 9223372036854775807
structure aL.Ok (a : aL) : Prop where
 h0 : a.fS.length ≤ 9223372036854775807
 h1 : a.fT.length ≤ 9223372036854775807
structure aC.Ok (a : aC) : Prop where
 h0 : a.az.length ≤ 9223372036854775807
 h1 : a.av.length ≤ 9223372036854775807
 h2 : ∀ x ∈ a.av, TParam.Ok x
 h3 : a.aM.length ≤ 9223372036854775807
 h4 : ∀ x ∈ a.aM, TParam.Ok x
 h5 : a.ay.length ≤ 9223372036854775807
 h6 : ∀ x ∈ a.ay, x.length ≤ 9223372036854775807
 h7 : a.ax.length ≤ 9223372036854775807
 h8 : ∀ x ∈ a.ax, aL.Ok x
structure bH.Ok (a : bH) : Prop where
 h0 : a.aQ.length ≤ 9223372036854775807
mutual
inductive ae.Ok : ae → Prop where
 | mk (a0 : bH) (a1 : ah) (h0 : bH.Ok a0) (h1 : ah.Ok a1) : ae.Ok (.mk a0 a1)
inductive ah.Ok : ah → Prop where
 | mk (a0 : Int) (a1 : Int) (a2 : aU) (a3 : Int) (a4 : List ae) (h0 : a2.length ≤ 9223372036854775807) (h1 : a4.length ≤ 9223372036854775807) (h2 : ∀ x ∈ a4, ae.Ok x) : ah.Ok (.mk a0 a1 a2 a3 a4)
end
theorem ae.Ok.inv {a : ae} (h : a.Ok) : (bH.Ok a.bm) ∧ (ah.Ok a.aY) := by
 cases h
 exact ⟨by assumption, by assumption⟩
theorem ah.Ok.inv {a : ah} (h : a.Ok) : (a.aQ.length ≤ 9223372036854775807) ∧ (a.af.length ≤ 9223372036854775807) ∧ (∀ x ∈ a.af, ae.Ok x) := by
 cases h
 exact ⟨by assumption, by assumption, by assumption⟩
structure au.Ok (a : au) : Prop where
 h0 : a.az.length ≤ 9223372036854775807
 h1 : a.jv.length ≤ 9223372036854775807
 h2 : ah.Ok a.bc
structure aj.Ok (a : aj) : Prop where
 h0 : a.az.length ≤ 9223372036854775807
 h1 : a.jv.length ≤ 9223372036854775807
 h2 : a.nB.length ≤ 9223372036854775807
structure aw.Ok (a : aw) : Prop where
 h0 : a.az.length ≤ 9223372036854775807
 h1 : a.dp.length ≤ 9223372036854775807
 h2 : a.aH.length ≤ 9223372036854775807
 h3 : ∀ x ∈ a.aH, au.Ok x
 h4 : a.aE.length ≤ 9223372036854775807
 h5 : ∀ x ∈ a.aE, aj.Ok x
structure aN.Ok (a : aN) : Prop where
 h0 : a.a6.length ≤ 9223372036854775807
 h1 : ∀ x ∈ a.a6, aC.Ok x
 h2 : a.aJ.length ≤ 9223372036854775807
 h3 : ∀ x ∈ a.aJ, aw.Ok x
end
theorem Jq {S : Nat → Prop} {w : World} {a : Option Addr} {len cap : Nat} {zs : List Int}
  (h : (a = none ∧ len = 0 ∧ cap = 0 ∧ zs = []) ∨ ∃ x, a = some x ∧ len ≤ cap ∧ cap ≤ maxLen ∧ zs.length = cap ∧ (∀ i, i < zs.length → w.cell? (x.add i) = some (.int .u8 (zs.getD i 0))) ∧ ∀ n ∈ zs, (Lit.int .u8 n).wf = true)
  (hS : ∀ b, b < w.heap.size → S b) : ∃ bs : List UInt8, aV S w (sl 1 cB bs) (.slice a len cap) := by
 have hp := LJ h hS
 have hz : len ≤ zs.length := by
  rcases h with ⟨rfl, rfl, rfl, rfl⟩ | ⟨x, rfl, hl, hm, hz, bw, hwz⟩
  ·simp
  ·omega
 have hb : ∀ i, 0 ≤ zs.getD i 0 ∧ zs.getD i 0 ≤ 255 := OP h
 refine ⟨(zs.take len).map fun z => UInt8.ofNat z.toNat, ?_⟩
 have hlen : ((zs.take len).map fun z => UInt8.ofNat z.toNat).length = len := by simp; omega
 show aV S w (.gz 1 ((zs.take len).map fun z => UInt8.ofNat z.toNat).length (row cB _)) _
 rw [hlen]
 refine Jw hp (fun i hi => ?_)
 have jo := hb i
 rw [lp (by rw [hlen]; exact hi), List.getElem_map, afM]
 have e1 : zs.getD i 0 = zs[i]'ahw := by
  rw [adY]; simp [show i < zs.length by omega]
 rw [← e1]
 show _ = [PV.int .u8 ((UInt8.ofNat (zs.getD i 0).toNat).toNat : Int)]
 congr 2
 rw [afv]
 omega
set_option maxRecDepth 100000
def Wr (a0 : ae) (a1 : Int) (r : Int) : Prop := ACall Tryz.prog 202 [.agg a0.lit, .int .i64 a1] [] (fun res h => res = .int .i64 r ∧ h = [])
inductive qJ : (List ae) → Int → Int → ((Int) ⊕ Int) → Prop
 | mk (aas : ae → Int → Option (Int)) (adN : ∀ a0 a1 r, aas a0 a1 = some r → Wr a0 a1 r) (qK : (List ae) → Int → Int → Option ((Int) ⊕ Int)) (Jx : ∀ a0 XE aW o, qK a0 XE aW = some o → qJ a0 XE aW o) (a0 : List ae) (XE : Int) (aW : Int) (o : (Int) ⊕ Int) (h : (
 (if aW < (a0.length : Int) then
 idx a0 aW >>= fun aX =>
 aas aX XE >>= fun v20 =>
 (if v20 < 0 then
 some (.inr (-1))
 else
 qK a0 v20 (ai (aW + 1)))
 else
 some (.inl XE))
 ) = some o) : qJ a0 XE aW o
set_option maxRecDepth 100000
def iu (a0 : List UInt8) (l7 : List UInt8) (y8 : Int) : Option ((List UInt8)) :=
 (if y8 < (a0.length : Int) then
 idx a0 y8 >>= fun c12 =>
 idx l7 y8 >>= fun W6 =>
 iu a0 (l7.set y8.toNat c12) (ai (y8 + 1))
 else
 some l7)
partial_fixpoint
def gX (a0 : List UInt8) : Option ((List UInt8)) :=
 (xc 1 (a0.length : Int) (a0.length : Int) : Option (List UInt8)) >>= fun l1 =>
 (
 iu a0 l1 0
 : Option ((List UInt8))) >>= fun l3 =>
 some l3
theorem sJ {a0 : List UInt8} {r : (List UInt8)} (h : gX a0 = some r) : ACall Tryz.prog 15 [sl 1 cB a0] [] (fun res h => res = sl 1 cB r ∧ h = []) := by
 refine dx Tryz.func15 ?_
 unfold gX at h
 refine .d (.d (bk h fun l1 J6 h => ⟨Bl J6, l1.length, row cB l1, uR J6, yC J6 rfl ⟨.same _, trivial⟩, ?_⟩))
 obtain ⟨o4, QN, NS⟩ := bd h
 replace h := QN
 refine .cut (fun σ η => ∃ l3, l3 = o4 ∧ σ = [(3, .own 0 0 0 l3.length)] ∧ η = [.row 0 1 l3.length 5 (row cB l3)]) ?_ ?_
 refine .d ?_
 refine le (iu.partial_correctness a0 (motive := fun l7 y8 sd => o4 = sd → aB _ _ [(0, sl 1 cB a0), (3, .own 0 0 0 l7.length), (4, .int .i64 y8)] [.row 0 1 l7.length 5 (row cB l7)]) ?_ l1 0 o4 h rfl) (tk [0] ⟨.l, .o, .i, ⟨⟩⟩ ⟨nw, ⟨⟩⟩)
 intro F10 Vf l7 y8 sd h se
 subst se
 refine aB.round (.d (.d (sD h (fun jt h => ?_) (fun jt h => ?_))))
 exact .d (bk h fun c12 rH h => ⟨aK rH, _, (aD rH).trans rfl, (bk h fun W6 qe h => ⟨rfl, aK qe, _, adX _, ⟨rfl, _, row cB (l7.set y8.toNat c12), ((aD qe).trans rfl), sw (kO qe) rfl ⟨.same _, trivial⟩, (lg (Vf _ _ _ h rfl) (tk [0] ⟨.l, (.ox ln), .i, ⟨⟩⟩ ⟨(Up rfl ln), ⟨⟩⟩))⟩⟩)⟩)
 exact ct ⟨_, si h, rfl, rfl⟩ (tk [0] ⟨.o, ⟨⟩⟩ ⟨nw, ⟨⟩⟩)
 rintro _ _ ⟨l3, rfl, rfl, rfl⟩
 replace h := NS
 refine .d ?_
 obtain rfl := si h
 exact en [] ⟨rfl, rfl⟩ .r ⟨⟩
theorem Dc {a0 : List UInt8} {r : (List UInt8)} (h : gX a0 = some r) : ACall Tryz.prog 15 [sl 1 cB a0] [] (fun res h => res = .own 0 0 0 r.length ∧ h = [.row 0 1 r.length 5 (row cB r)]) := by
 refine dx Tryz.func15 ?_
 unfold gX at h
 refine .d (.d (bk h fun l1 J6 h => ⟨Bl J6, l1.length, row cB l1, uR J6, yC J6 rfl ⟨.same _, trivial⟩, ?_⟩))
 obtain ⟨o4, QN, NS⟩ := bd h
 replace h := QN
 refine .cut (fun σ η => ∃ l3, l3 = o4 ∧ σ = [(3, .own 0 0 0 l3.length)] ∧ η = [.row 0 1 l3.length 5 (row cB l3)]) ?_ ?_
 refine .d ?_
 refine le (iu.partial_correctness a0 (motive := fun l7 y8 sd => o4 = sd → aB _ _ [(0, sl 1 cB a0), (3, .own 0 0 0 l7.length), (4, .int .i64 y8)] [.row 0 1 l7.length 5 (row cB l7)]) ?_ l1 0 o4 h rfl) (tk [0] ⟨.l, .o, .i, ⟨⟩⟩ ⟨nw, ⟨⟩⟩)
 intro F10 Vf l7 y8 sd h se
 subst se
 refine aB.round (.d (.d (sD h (fun jt h => ?_) (fun jt h => ?_))))
 exact .d (bk h fun c12 rH h => ⟨aK rH, _, (aD rH).trans rfl, (bk h fun W6 qe h => ⟨rfl, aK qe, _, adX _, ⟨rfl, _, row cB (l7.set y8.toNat c12), ((aD qe).trans rfl), sw (kO qe) rfl ⟨.same _, trivial⟩, (lg (Vf _ _ _ h rfl) (tk [0] ⟨.l, (.ox ln), .i, ⟨⟩⟩ ⟨(Up rfl ln), ⟨⟩⟩))⟩⟩)⟩)
 exact ct ⟨_, si h, rfl, rfl⟩ (tk [0] ⟨.o, ⟨⟩⟩ ⟨nw, ⟨⟩⟩)
 rintro _ _ ⟨l3, rfl, rfl, rfl⟩
 replace h := NS
 refine .d ?_
 obtain rfl := si h
 exact en [0] ⟨rfl, rfl⟩ .o ⟨nw, ⟨⟩⟩
def Ws (a0 : ae) (r : ae) : Prop := ACall Tryz.prog 203 [.agg a0.lit] [] (fun res h => ∃ F0 : Nat → List PV, DR ae.D r.aY.af.length F0 r.aY.af ∧ res = .agg [.bool r.bm.df, .int .i64 r.bm.aP, .str r.bm.aQ, .int .i64 r.aY.aF, .int .i64 r.aY.aP, .str r.aY.aQ, .int .i64 r.aY.aO, .own 0 0 0 r.aY.af.length] ∧ h = [.row 0 8 r.aY.af.length 197 F0])
inductive qL : (List ae) → (List ae) → Int → ((List ae)) → Prop
 | mk (aat : ae → Option (ae)) (adO : ∀ a0 r, aat a0 = some r → Ws a0 r) (qM : (List ae) → (List ae) → Int → Option ((List ae))) (Jy : ∀ a0 jK zJ o, qM a0 jK zJ = some o → qL a0 jK zJ o) (a0 : List ae) (jK : List ae) (zJ : Int) (o : (List ae)) (h : (
 (if zJ < (a0.length : Int) then
 idx a0 zJ >>= fun Qu =>
 aat Qu >>= fun pk =>
 idx jK zJ >>= fun Sa =>
 qM a0 (jK.set zJ.toNat pk) (ai (zJ + 1))
 else
 some jK)
 ) = some o) : qL a0 jK zJ o
end Go.Am
