/- Texts of the proof, joined and shortened. -/
import Derived.Test.YtiigfbapjeefbaaGreatDoorPk3
import Derived.Test.YtiigfbapjeefbaaGreatDoorProg
set_option linter.unusedVariables false
set_option linter.unusedSimpArgs false
namespace Go.Am
open Go Go.RowKit
def look (l : List (Nat × TI)) (t : Nat) : TI := match l with
 | [] => .other
 | (k, ti) :: r => match Nat.beq t k with
  | true => ti
  | false => look r t
def qF (l : List (Nat × TI)) : lO := ⟨look l⟩
def fX : List Value → List PV → Bool
 | [], [] => true
 | .int k n :: r, .int k' n' :: r' => mX k k' && n == n' && fX r r'
 | .bool b :: r, .bool b' :: r' => b == b' && fX r r'
 | .string s :: r, .str s' :: r' => s.data.toList == s' && fX r r'
 | .slice none 0 0 :: r, .bm :: r' => fX r r'
 | .pointer none :: r, .dA :: r' => fX r r'
 | _, _ => false
def oy (P : Program) (t n : Nat) : Bool := match P.info? t with
 | some i => Nat.beq i.size n
 | none => false
def nJ (P : Program) : List Field → List (Nat × Nat × Bool) → Bool
 | [], [] => true
 | f :: r, (off, size, ag) :: r' => Nat.beq f.offset off && oy P f.type size && Nat.blt 0 size && (match P.underlying f.type with | some d => ag == wR d | none => false) && nJ P r r'
 | _, _ => false
def AQ : Value → PV → Bool
 | .int k n, .int k' n' => mX k k' && n == n'
 | .bool b, .bool b' => b == b'
 | .string s, .str s' => s.data.toList == s'
 | _, _ => false
theorem AR {v : Value} {z : PV} (h : AQ v z = true) : mY z v ∧ iM z = true ∧ storable z = true := by
 unfold AQ at h
 split at h
 ·simp only [As, beq_iff_eq] at h
  obtain ⟨h1, rfl⟩ := h
  obtain rfl := dy h1
  exact ⟨rfl, rfl, rfl⟩
 ·rw [beq_iff_eq] at h; subst h; exact ⟨rfl, rfl, rfl⟩
 ·rw [beq_iff_eq] at h; subst h; exact ⟨rfl, rfl, rfl⟩
 ·cases h
def ll (P : Program) (t : Nat) : TI → Bool
 | .int k => (match P.underlying t with | some (.int k') => mX k k' | _ => false) && oy P t 1
 | .bool => (match P.underlying t with | some .bool => true | _ => false) && oy P t 1
 | .str => (match P.underlying t with | some .string => true | _ => false) && oy P t 1
 | .ptr e => (match P.underlying t with | some (.pointer e') => Nat.beq e e' | _ => false) && oy P t 1
 | .slice e sz L6 z => (match P.underlying t with | some (.slice e') => Nat.beq e e' | _ => false) && oy P t 1 && Nat.blt 0 sz && Nat.blt 0 L6 &&
   (match P.info? e with
    | some i => Nat.beq i.size sz && Nat.beq i.bytes L6 && (match i.zero with | some zv => Nat.beq zv.cells.size sz && fX zv.cells.toList z | none => false)
    | none => false)
 | .struct sz fl z => (!(uL z) || Ao P t z) && (match P.underlying t with | some (.struct fs) => nJ P fs.toList fl | _ => false) &&
   (match P.info? t with
    | some i => Nat.beq i.size sz && (match i.zero with | some zv => Nat.beq zv.cells.size sz && fX zv.cells.toList z | none => false)
    | none => false)
 | .map k e z => (match P.underlying t with | some (.map k' e') => Nat.beq k k' && Nat.beq e e' | _ => false) && oy P t 1 && (match P.info? e with
   | some i => (match i.zero with | some zv => AQ zv z | none => false)
   | none => false)
 | .other => true
def zeroAt (P : Program) (t : Nat) (z : List PV) (n : Nat) : Bool := match P.info? t with
 | some i => match i.zero with
  | some zv => Nat.beq zv.cells.size n && Nat.beq z.length n && fX zv.cells.toList z
  | none => false
 | none => false
def Rm (P : Program) (t : Nat) (ti : TI) : Bool := ll P t ti && (match wS ti with | some z => zeroAt P t z (jE ti) | none => true)
theorem pN : ∀ (vs : List Value) (z : List PV), fX vs z = true → vs.length = z.length ∧ ∀ (j : Nat) (u : Value), vs[j]? = some u → ∃ pv : PV, z[j]? = some pv ∧ u.oneCell' = true ∧ ∀ S w, aF S w pv u := by
 intro vs
 induction vs with
 | nil =>
  intro z hz
  cases z with
  | nil => exact ⟨rfl, fun j u hj => by simp at hj⟩
  | cons a r => simp [fX] at hz
 | cons v vs ih =>
  intro z hz
  cases z with
  | nil => cases v <;> simp [fX] at hz
  | cons p z =>
   have step : ∀ (hz' : fX vs z = true) (Qp : v.oneCell' = true) (hp : ∀ S w, aF S w p v), (v :: vs).length = (p :: z).length ∧ ∀ (j : Nat) (u : Value), (v :: vs)[j]? = some u → ∃ pv : PV, (p :: z)[j]? = some pv ∧ u.oneCell' = true ∧ ∀ S w, aF S w pv u := by
    intro hz' Qp hp
    obtain ⟨h1, h2⟩ := ih z hz'
    refine ⟨by simp [h1], fun j u hj => ?_⟩
    cases j with
    | zero => simp at hj; subst hj; exact ⟨p, rfl, Qp, hp⟩
    | succ j => simp at hj; obtain ⟨pv, q1, q2⟩ := h2 j u hj; exact ⟨pv, by simpa using q1, q2⟩
   cases v with
   | int k n =>
    cases p <;> simp [fX] at hz
    obtain ⟨⟨hk, hn⟩, hz⟩ := hz
    have := dy hk
    subst this hn
    exact step hz rfl fun S w => .int _ _
   | bool b =>
    cases p <;> simp [fX] at hz
    obtain ⟨hb, hz⟩ := hz
    subst hb
    exact step hz rfl fun S w => .bool _
   | string s =>
    cases p <;> simp [fX] at hz
    obtain ⟨hs, hz⟩ := hz
    subst hs
    exact step hz rfl fun S w => aF.str _
   | slice a n c =>
    cases a with
    | some a => cases p <;> simp [fX] at hz
    | none =>
     cases n with
     | succ n => cases p <;> simp [fX] at hz
     | zero =>
      cases c with
      | succ c => cases p <;> simp [fX] at hz
      | zero =>
       cases p <;> simp [fX] at hz
       exact step hz rfl fun S w => .bm
   | pointer a =>
    cases a with
    | some a => cases p <;> simp [fX] at hz
    | none =>
     cases p <;> simp [fX] at hz
     exact step hz rfl fun S w => .dA
   | _ => cases p <;> simp [fX] at hz
theorem js {P : Program} {t n : Nat} (h : oy P t n = true) : ∃ i, P.info? t = some i ∧ i.size = n := by
 unfold oy at h
 split at h
 ·rename_i i hi; exact ⟨i, hi, Of h⟩
 ·cases h
theorem qG {P : Program} : ∀ (fs : List Field) (fl : List (Nat × Nat × Bool)), nJ P fs fl = true → fl.length = fs.length ∧
  ∀ (k : Nat) (off size : Nat) (ag : Bool), fl[k]? = some (off, size, ag) → ∃ f j d, fs[k]? = some f ∧ f.offset = off ∧ P.info? f.type = some j ∧ j.size = size ∧ 0 < size ∧ P.underlying f.type = some d ∧ ag = wR d
 | [], [], _ => ⟨rfl, fun k off size ag hk => by simp at hk⟩
 | [], _ :: _, h => by simp [nJ] at h
 | _ :: _, [], h => by simp [nJ] at h
 | f :: r, (off, size, ag) :: r', h => by
  simp only [nJ, As] at h
  obtain ⟨⟨⟨⟨h1, h2⟩, h3⟩, h4⟩, h5⟩ := h
  obtain ⟨q1, q2⟩ := qG r r' h5
  refine ⟨by simp [q1], fun k Rn aop ag' hk => ?_⟩
  cases k with
  | zero =>
   simp at hk
   obtain ⟨rfl, rfl, rfl⟩ := hk
   obtain ⟨j, hj, B3⟩ := js h2
   cases hu : P.underlying f.type with
   | none => rw [hu] at h4; cases h4
   | some d =>
    rw [hu] at h4
    exact ⟨f, j, d, rfl, Of h1, hj, B3, by simpa using h3, hu, by simpa using h4⟩
  | succ k => exact q2 k Rn aop ag' (by simpa using hk)
theorem CH : ∀ (l : List (Nat × TI)) (t : Nat) (ti : TI), look l t = ti → ti = .other ∨ (t, ti) ∈ l
 | [], t, ti, h => .inl h.symm
 | (k, x) :: r, t, ti, h => by
  unfold look at h
  split at h
  ·rename_i hb
   have := Of hb
   subst this h
   exact .inr avj
  ·rcases CH r t ti h with h1 | h1
   ·exact .inl h1
   ·exact .inr (by simp [h1])
theorem aoq {P : Program} {l : List (Nat × TI)} (hl : l.all (fun p => Rm P p.1 p.2) = true) : cn P (qF l) := by
 have aor : ∀ t ti, (qF l).get t = ti → ti ≠ .other → Rm P t ti = true := fun t ti ht hn => by
  rcases CH l t ti ht with h1 | h1
  ·exact (hn h1).elim
  ·exact (asH.1 hl) _ h1
 have all : ∀ t ti, (qF l).get t = ti → ti ≠ .other → ll P t ti = true := fun t ti ht hn => by
  have := aor t ti ht hn
  simp only [Rm, As] at this
  exact this.1
 have zero : ∀ t z, wS ((qF l).get t) = some z → ∃ i zv, P.info? t = some i ∧ i.zero = some zv ∧ zv.cells.size = jE ((qF l).get t) ∧ z.length = jE ((qF l).get t) ∧
   ∀ (j : Nat) (u : Value), zv.cells[j]? = some u → ∃ pv : PV, z[j]? = some pv ∧ u.oneCell' = true ∧ ∀ S w, aF S w pv u := fun t z hz => by
  have := aor t _ rfl (by intro h0; rw [h0] at hz; cases hz)
  simp only [Rm, As] at this
  have := this.2
  rw [hz] at this
  simp only [zeroAt] at this
  split at this
  ·rename_i i hi
   split at this
   ·rename_i zv hzv
    simp only [As] at this
    obtain ⟨⟨h1, h2⟩, h3⟩ := this
    obtain ⟨_, r2⟩ := pN _ _ h3
    exact ⟨i, zv, hi, hzv, Of h1, Of h2, fun j u hj => r2 j u avr⟩
   ·cases this
  ·cases this
 have one : ∀ t, jE ((qF l).get t) = 1 → (∀ sz fl z, (qF l).get t ≠ .struct sz fl z) → ∃ i, P.info? t = some i ∧ i.size = 1 := fun t h1 h2 => by
  cases ht : (qF l).get t with
  | other => rw [ht] at h1; cases h1
  | struct sz fl z => exact (h2 _ _ _ ht).elim
  | int k => have := all t _ ht avj; simp only [ll, As] at this; exact js this.2
  | bool => have := all t _ ht avj; simp only [ll, As] at this; exact js this.2
  | str => have := all t _ ht avj; simp only [ll, As] at this; exact js this.2
  | ptr e => have := all t _ ht avj; simp only [ll, As] at this; exact js this.2
  | map k e z => have := all t _ ht avj; simp only [ll, As] at this; exact js this.1.2
  | slice e sz b z => have := all t _ ht avj; simp only [ll, As] at this; exact js this.1.1.1.2
 refine ⟨fun t sz fl z ht hz => by
   have := all t _ ht avj
   simp only [ll, As, atg, atm] at this
   rcases this.1.1 with h | h
   ·rw [hz] at h; cases h
   ·exact h, fun t k ht => ?_, fun t ht => ?_, fun t ht => ?_, fun t e ht => ?_, fun t e sz b z ht => ?_, fun t k e z ht => ?_, fun t e sz b z ht => ?_, one, zero, fun t sz fl z ht => ?_⟩
 ·have := all t _ ht avj
  simp only [ll, As] at this
  have := this.1
  split at this
  ·rename_i k' hu; rw [hu, dy this]
  ·cases this
 ·have := all t _ ht avj
  simp only [ll, As] at this
  have := this.1
  split at this
  ·assumption
  ·cases this
 ·have := all t _ ht avj
  simp only [ll, As] at this
  have := this.1
  split at this
  ·assumption
  ·cases this
 ·have := all t _ ht avj
  simp only [ll, As] at this
  have := this.1
  split at this
  ·rename_i e' hu; rw [hu, Of this]
  ·cases this
 ·have := all t _ ht avj
  simp only [ll, As] at this
  obtain ⟨⟨⟨⟨h1, h2⟩, h3⟩, h4⟩, h5⟩ := this
  refine ⟨?_, by simpa using h3, ?_⟩
  ·split at h1
   ·rename_i e' hu; rw [hu, Of h1]
   ·cases h1
  ·split at h5
   ·rename_i i hi
    simp only [As] at h5
    obtain ⟨⟨q1, q2⟩, q3⟩ := h5
    split at q3
    ·rename_i zv hz
     simp only [As] at q3
     obtain ⟨r1, r2⟩ := pN _ _ q3.2
     have e1 := Of q3.1
     refine ⟨i, zv, hi, Of q1, Of q2, hz, e1, ?_, fun j u hj => r2 j u avr⟩
     rw [← r1, ← e1]; simp
    ·cases q3
   ·cases h5
 ·have := all t _ ht avj
  simp only [ll, As] at this
  obtain ⟨⟨h1, _⟩, h3⟩ := this
  refine ⟨?_, ?_⟩
  ·split at h1
   ·rename_i k' e' hu
    simp only [As] at h1
    rw [hu, Of h1.1, Of h1.2]
   ·cases h1
  ·split at h3
   ·rename_i i hi
    split at h3
    ·rename_i zv hz
     exact ⟨i, zv, hi, hz, AR h3⟩
    ·cases h3
   ·cases h3
 ·have := all t _ ht avj
  simp only [ll, As] at this
  simpa using this.1.2
 ·have := all t _ ht avj
  simp only [ll, As] at this
  obtain ⟨⟨_, h1⟩, h2⟩ := this
  split at h1
  ·rename_i fs hu
   obtain ⟨q1, q2⟩ := qG _ _ h1
   split at h2
   ·rename_i i hi
    simp only [As] at h2
    obtain ⟨r1, r2⟩ := h2
    split at r2
    ·rename_i zv hz
     simp only [As] at r2
     obtain ⟨s1, s2⟩ := pN _ _ r2.2
     have e1 := Of r2.1
     refine ⟨fs, i, hu, hi, Of r1, by simpa using q1, ⟨zv, hz, e1, by rw [← s1, ← e1]; simp, fun j u hj => s2 j u avr⟩, fun k off size ag hk => ?_⟩
     obtain ⟨f, j, d, t1, t2⟩ := q2 k off size ag hk
     exact ⟨f, j, d, by simpa using t1, t2⟩
    ·cases r2
   ·cases h2
  ·cases h1
section
variable {h η : List ar} {k : List Nat}
theorem Fz.int_eq {k' : IntKind} {n n' : Int} (he : n = n') : Fz h η k (.int k' n) (.int k' n') := by subst he; exact .int _ _
theorem Fz.FL {b b' : Bool} (he : b = b') : Fz h η k (.bool b) (.bool b') := by subst he; exact .bool _
theorem Fz.Al {s s' : List UInt8} (he : s = s') : Fz h η k (.str s) (.str s') := by subst he; exact .str _
theorem Fz.NJ {id g sz n off len bx uf : Nat} {e : TypeId} {f f' : Nat → List PV} (hk : id ∉ k) (ho : h[id]? = some (ar.row g sz n e f)) (h1 : sz = bx) (h2 : len = uf) (hp : ∀ i, i < uf → (f' i).all cc = true)
  (hf : ∀ i, i < uf → vn h η k (f (off + i)) (f' i)) : Fz h η k (.own id g off len) (.eG bx uf f') := by
 subst h1 h2
 exact .frz id g sz n off len e f f' hk ho (fun i hi => (vn.get _ _ (hf i hi)).1) (fun i j pv hi hj => (asH.1 (hp i hi)) pv (asP hj)) (fun i j pv ew hi h1 h2 _ => (vn.get _ _ (hf i hi)).2 j pv ew h1 h2)
theorem Fz.aos {cs tP : List PV} (hl : vn h η k cs tP) : Fz h η k (.agg cs) (.agg tP) := .agg _ _ (vn.get _ _ hl).1 (vn.get _ _ hl).2
theorem Fz.bu {cs tP : List PV} (hl : vn h η k cs tP) : Fz h η k (.aV cs) (.aV tP) := .aV _ _ (vn.get _ _ hl).1 (vn.get _ _ hl).2
theorem aci {α : Type} {i l : Nat} {a b : α} (qd : i < l) : (bif Nat.blt i l then a else b) = a := by
 have hb : Nat.blt i l = true := by simpa using qd
 rw [hb]; rfl
theorem acj {α : Type} {i l : Nat} {a b : α} (qd : l ≤ i) : (bif Nat.blt i l then a else b) = b := by
 have hb : Nat.blt i l = false := by
  cases hh : Nat.blt i l with
  | true =>
   have : i < l := by simpa using hh
   omega
  | false => rfl
 rw [hb]; rfl
end
theorem PT {x : Int} (h1 : -9223372036854775808 ≤ x) (h2 : x ≤ 9223372036854775807) : IntKind.i64.wrap x = x := by rw [IntKind.wrap_i64]; omega
theorem ACall.aot {P : Program} {f : FuncId} {args ke : List PV} {R : PV → List ar → Prop} (hA : ACall P f ke [] R) (h : List ar) (hz : vn h [] [] args ke) (hn : ke.all kI = true)
  (FM : ∀ r0 h0, R r0 h0 → FN r0 = true ∧ ∀ o ∈ h0, NK o) :
  ACall P f args h (fun res h' => ∃ r0 h0, R r0 h0 ∧ res = pO h.length r0 ∧ h' = h ++ h0.map (fY h.length)) := by
 obtain ⟨h1, h2⟩ := vn.get _ _ hz
 exact hA.snap h h1 (fun j pv ew q1 q2 => ⟨h2 j pv ew q1 q2, (asH.1 hn) ew (asP q2)⟩) (fun r0 h0 hR => ⟨(FM r0 h0 hR).1, fun o ho => ((FM r0 h0 hR).2 o ho).p⟩)
theorem Fz.snap {h : List ar} {id g sz n off len bx uf : Nat} {e : TypeId} {f f' : Nat → List PV} (ho : h[id]? = some (ar.row g sz n e f)) (h1 : sz = bx) (h2 : len = uf) (hp : ∀ i, i < uf → (f' i).all cc = true)
  (hf : ∀ i, i < uf → vn h [] [] (f (off + i)) (f' i)) : Fz h [] [] (.own id g off len) (.eG bx uf f') := .NJ avj ho h1 h2 hp hf
theorem ACall.heq {P : Program} {f : FuncId} {args : List PV} {h h2 : List ar} {R : PV → List ar → Prop} (hA : ACall P f args h R) (he : cW h2 h) : ACall P f args h2 R := by
 refine ⟨hA.1, fun w vs μ S hH hM fQ ha => ?_⟩
 obtain ⟨hH2, hM2⟩ := he.core ⟨hH, hM⟩
 refine (hA.2 w vs μ S hH2 hM2 fQ (fun j pv hj => ?_)).mono ?_
 ·obtain ⟨v, h1, h3⟩ := ha j pv hj
  exact ⟨v, h1, he.GR h3⟩
 ·rintro e w' ⟨v, res, h', μ', S', rfl, hr, hv, hH', hM', hF⟩
  refine ⟨v, res, h', μ', S', rfl, hr, hv, hH', hM', ⟨by rw [he.len]; exact hF.len, fun b hb ho => hF.blocks b hb (fun hx => ho (he.tZ hx)), hF.sub, fun b hb => ?_, fun b hb => ?_, hF.size, hF.os, hF.tape, hF.output, fun id g sz n e f hid => ?_, fun id hid => hF.dead id (he.getD hid), fun b k ho hc => hF.bs b k (he.owned ho) hc, fun id g sz n e f b base hid hm lx => ?_, fun b x y z hx lx => hF.qE b x y z (he.hid hx) lx⟩⟩
  ·rcases hF.new b hb with h1 | h1 | h1
   ·exact .inl h1
   ·exact .inr (.inl (he.tZ h1))
   ·exact .inr (.inr h1)
  ·rcases hF.own b hb with h1 | h1
   ·exact .inl (he.tZ h1)
   ·exact .inr h1
  ·obtain ⟨f', h1, _⟩ := he.get hid
   exact hF.xe id g sz n e f' h1
  ·obtain ⟨f', h1, _⟩ := he.get hid
   exact hF.maps id g sz n e f' b base h1 hm lx
abbrev aq := List UInt8
abbrev aS (x : Int) : Int := IntKind.i64.wrap x
theorem bind_some {α β : Type} {x : Option α} {f : α → Option β} {r : β} (h : (x >>= f) = some r) : ∃ a, x = some a ∧ f a = some r := by
 cases x with
 | none => cases h
 | some a => exact ⟨a, rfl, h⟩
def idx {α : Type} [Inhabited α] (l : List α) (i : Int) : Option α := if 0 ≤ i ∧ i < (l.length : Int) then some (l.getD i.toNat default) else none
def n9 (s : aq) (i : Int) : Option UInt8 := if 0 ≤ i ∧ i < (s.length : Int) then some (s.getD i.toNat 0) else none
def GC (s : aq) (lo hi : Int) : Option aq := if 0 ≤ lo ∧ lo ≤ hi ∧ hi ≤ (s.length : Int) then some ((s.take hi.toNat).drop lo.toNat) else none
def E8 (s : aq) (lo : Int) : Option aq := if 0 ≤ lo ∧ lo ≤ (s.length : Int) then some (s.drop lo.toNat) else none
def sto (s : aq) (hi : Int) : Option aq := if 0 ≤ hi ∧ hi ≤ (s.length : Int) then some (s.take hi.toNat) else none
def j5 {α : Type} (s : List α) (lo : Int) : Option (List α) := if 0 ≤ lo ∧ lo ≤ (s.length : Int) then some (s.drop lo.toNat) else none
def Ir {α : Type} (s : List α) (hi : Int) : Option (List α) := if 0 ≤ hi ∧ hi ≤ (s.length : Int) then some (s.take hi.toNat) else none
def aI (a b : aq) : Option aq := if a.length + b.length ≤ 4611686018427387904 then some (a ++ b) else none
def n8 {α : Type} (bytes : Nat) (a b : List α) : Option (List α) := if (a.length + b.length) * bytes ≤ 140737488355328 then some (a ++ b) else none
def yU {α : Type} [Inhabited α] (bytes : Nat) (n m : Int) : Option (List α) := if 0 ≤ n ∧ n ≤ m ∧ m ≤ 4611686018427387904 ∧ m.toNat * bytes ≤ 140737488355328 then some (List.replicate n.toNat default) else none
theorem bB {α : Type} {c : Prop} [Decidable c] {x r : α} (h : (if c then some x else none) = some r) : c ∧ x = r := by
 by_cases hc : c
 ·rw [if_pos hc] at h; exact ⟨hc, ato h⟩
 ·rw [if_neg hc] at h; cases h
section
variable {α : Type} {x y r : α}
theorem aou {p : Prop} [Decidable p] (hb : decide p = true) (h : (if p then x else y) = r) : x = r := by rw [if_pos (of_decide_eq_true hb)] at h; exact h
theorem aov {p : Prop} [Decidable p] (hb : decide p = false) (h : (if p then x else y) = r) : y = r := by rw [if_neg (of_decide_eq_false hb)] at h; exact h
theorem NL {β : Type} [BEq β] [LawfulBEq β] {a b : β} [Decidable (a = b)] (hb : (a == b) = true) (h : (if a = b then x else y) = r) : x = r := by rw [if_pos (eq_of_beq hb)] at h; exact h
theorem NM {β : Type} [BEq β] [LawfulBEq β] {a b : β} [Decidable (a = b)] (hb : (a == b) = false) (h : (if a = b then x else y) = r) : y = r := by rw [if_neg (ne_of_beq_false hb)] at h; exact h
theorem aow {β : Type} [BEq β] [LawfulBEq β] {a b : β} [Decidable (a = b)] (hb : (a != b) = true) (h : (if a = b then x else y) = r) : y = r := NM (by simpa [bne] using hb) h
theorem aox {β : Type} [BEq β] [LawfulBEq β] {a b : β} [Decidable (a = b)] (hb : (a != b) = false) (h : (if a = b then x else y) = r) : x = r := NL (by simpa [bne] using hb) h
theorem Wt {b : Bool} (hb : b = true) (h : (if b = true then x else y) = r) : x = r := by rw [if_pos hb] at h; exact h
theorem Wu {b : Bool} (hb : b = false) (h : (if b = true then x else y) = r) : y = r := by rw [if_neg (by rw [hb]; decide)] at h; exact h
end
theorem Wv {b : Bool} (h : (!b) = false) : b = true := by cases b <;> simp_all
theorem Ww {b : Bool} (h : (!b) = true) : b = false := by cases b <;> simp_all
theorem NN {T F : Prop} (h : T) : eK true T F := .mk (fun _ => h) (fun h => by cases h)
theorem NO {T F : Prop} (h : F) : eK false T F := .mk (fun h => by cases h) (fun _ => h)
theorem H9 {b : Bool} {T F : Prop} (hb : b = true) (h : T) : eK b T F := .mk (fun _ => h) (fun h => by rw [hb] at h; cases h)
section
variable {α : Type} {l m : List α} {lo hi : Int}
theorem ir (h : j5 l lo = some m) : 0 ≤ lo ∧ lo ≤ (l.length : Int) := (bB h).1
theorem gh (h : j5 l lo = some m) : m.length = l.length - lo.toNat := by rw [← (bB h).2]; simp
theorem zM (h : Ir l hi = some m) : 0 ≤ hi ∧ hi ≤ (l.length : Int) := (bB h).1
theorem jS {b : Nat} {q : List α} (h : n8 b l m = some q) : (l.length + m.length) * b ≤ 140737488355328 := (bB h).1
theorem gw {b : Nat} {q : List α} (h : n8 b l m = some q) : q.length = l.length + m.length := by rw [← (bB h).2]; simp
theorem vz (h : Ir l hi = some m) : m.length = hi.toNat := by
 have hb := zM h
 rw [← (bB h).2]; simp; omega
end
def row {α : Type} (c : α → List PV) (l : List α) : Nat → List PV := fun i => (l.map c).getD i []
abbrev sl {α : Type} (sz : Nat) (c : α → List PV) (l : List α) : PV := .eG sz l.length (row c l)
def cI (x : Int) : List PV := [.int .i64 x]
def ack (k : IntKind) (x : Int) : List PV := [.int k x]
def cB (x : UInt8) : List PV := [.int .u8 x.toNat]
def cT (x : Bool) : List PV := [.bool x]
def cS (x : aq) : List PV := [.str x]
def cL {α : Type} (sz : Nat) (c : α → List PV) (x : List α) : List PV := [sl sz c x]
section
variable {α : Type} {c : α → List PV} {l m : List α} {x x' : α} {i lo hi : Int}
theorem Ro (x : Int) : (cI x).all cc = true := rfl
theorem Ia (k : IntKind) (x : Int) : (ack k x).all cc = true := rfl
theorem Rp (x : UInt8) : (cB x).all cc = true := rfl
theorem Rq (x : Bool) : (cT x).all cc = true := rfl
theorem Rr (x : aq) : (cS x).all cc = true := rfl
theorem Rs {β : Type} (sz : Nat) (d : β → List PV) (x : List β) : (cL sz d x).all cc = true := rfl
theorem FO (x : Int) : cB (UInt8.ofNat (IntKind.u8.wrap x).toNat) = [.int .u8 (IntKind.u8.wrap x)] := by
 have h : 0 ≤ IntKind.u8.wrap x ∧ IntKind.u8.wrap x < 256 := by
  have := IntKind.wrap_u8 x
  omega
 unfold cB
 congr 2
 rw [UInt8.toNat_ofNat']
 omega
theorem lX {k : Nat} (h : k < l.length) : row c l k = c l[k] := by unfold row; simp [asM, h]
theorem pn {k : Nat} (h : l[k]? = some x) : row c l k = c x := by unfold row; simp [asM, h]
theorem lp (hp : ∀ x, (c x).all cc = true) (k : Nat) : (row c l k).all cc = true := by
 by_cases h : k < l.length
 ·rw [lX h]; exact hp _
 ·unfold row; simp [asM, atj (show l.length ≤ k by omega)]
theorem zd {s : aq} {k : Nat} (h : k < s.length) : row cB s k = [.int .u8 (s.getD k 0).toNat] := by
 rw [lX h]; simp [cB, asM, h]
theorem ig {s : aq} {b : UInt8} (h : n9 s i = some b) : 0 ≤ i ∧ i < (s.length : Int) := (bB h).1
theorem ij {s : aq} {b : UInt8} (h : n9 s i = some b) : s.getD i.toNat 0 = b := (bB h).2
theorem FP {s t : aq} (h : GC s lo hi = some t) : 0 ≤ lo ∧ lo ≤ hi ∧ hi ≤ (s.length : Int) := (bB h).1
theorem FQ {s t : aq} (h : GC s lo hi = some t) : (s.take hi.toNat).drop lo.toNat = t := (bB h).2
theorem NP {s t : aq} (h : E8 s lo = some t) : 0 ≤ lo ∧ lo ≤ (s.length : Int) := (bB h).1
theorem NQ {s t : aq} (h : E8 s lo = some t) : s.drop lo.toNat = t := (bB h).2
theorem acm {s t : aq} (h : sto s hi = some t) : 0 ≤ hi ∧ hi ≤ (s.length : Int) := (bB h).1
theorem acn {s t : aq} (h : sto s hi = some t) : s.take hi.toNat = t := (bB h).2
theorem ay {s t u : aq} (h : aI s t = some u) : s.length + t.length ≤ 4611686018427387904 := (bB h).1
theorem az {s t u : aq} (h : aI s t = some u) : s ++ t = u := (bB h).2
theorem gl (h : j5 l lo = some m) : ∀ i, i < m.length → row c m i = row c l (lo.toNat + i) := fun i GW => by
 have hm : l[lo.toNat + i]? = some m[i] := by
  rw [← amb GW, ← (bB h).2, atA]
 rw [lX GW, pn hm]
theorem zN (h : Ir l hi = some m) : ∀ i, i < m.length → row c m i = row c l i := fun i GW => by
 have hl := vz h
 have hm : l[i]? = some m[i] := by
  rw [← amb GW, ← (bB h).2, atW, if_pos avh]
 rw [lX GW, pn hm]
def xg (c : α → List PV) (f : Nat → List PV) (off : Nat) (l : List α) : Prop := ∀ i, i < l.length → f (off + i) = row c l i
theorem aN : xg c (row c l) 0 l := fun i _ => by rw [asN]
theorem mK {s : aq} {f : Nat → List PV} {off n : Nat} (hs : xg cB f off s) (hn : s.length = n) : ∀ i, i < n → f (off + i) = [.int .u8 (s.getD i 0).toNat] := fun i hi => by
 subst hn
 rw [hs i hi]; exact zd hi
theorem gN {b : Nat} {q : List α} {f g : Nat → List PV} {off : Nat} (h : n8 b l m = some q) (hf : xg c f off l) (hg : ∀ i, i < m.length → g i = row c m i) :
  ∀ i, i < q.length → mJ (bif Nat.blt i l.length then f (off + i) else g (i - l.length)) (row c q i) := fun i GW => by
 have hl := gw h
 have e : q = l ++ m := (bB h).2.symm
 subst e
 by_cases qd : i < l.length
 ·rw [aci qd, hf i qd, lX GW, lX qd, atZ qd]; exact mJ.refl _
 ·rw [acj avh, hg _ avh, lX GW, lX avh, List.getElem_append_right avh]; exact mJ.refl _
theorem jT {f : Nat → List PV} {off : Nat} (hs : xg c f off m) : ∀ i, i < m.length → f (off + i) = row c m i := hs
theorem PL {s : aq} : ∀ i, i < s.length → [PV.int .u8 (s.getD i 0).toNat] = row cB s i := fun i hi => (zd hi).symm
def CLL : List (List PV) → List (List PV) → Prop
 | [], [] => True
 | a :: l, b :: r => mJ a b ∧ CLL l r
 | _, _ => False
theorem CI {a b lit : List PV} {l r : List (List PV)} (e : b = lit) (h : mJ a lit) (t : CLL l r) : CLL (a :: l) (b :: r) := ⟨by rw [e]; exact h, t⟩
theorem aB : ∀ {l r : List (List PV)}, l = r → CLL l r
 | [], _, rfl => trivial
 | a :: l, _, rfl => ⟨mJ.refl _, aB rfl⟩
theorem FR : ∀ {l r : List (List PV)}, CLL l r → ∀ i, mJ (l.getD i []) (r.getD i [])
 | [], [], _, i => by simp; exact trivial
 | a :: l, b :: r, h, 0 => h.1
 | a :: l, b :: r, h, i + 1 => by simpa using FR h.2 i
 | [], _ :: _, h, _ => h.elim
 | _ :: _, [], h, _ => h.elim
theorem aD (c : α → List PV) (l : List α) {n : Nat} {cs : List (List PV)} (hn : n = l.length) (h : CLL cs (l.map c)) : ∀ i, i < n → mJ (cs.getD i []) (row c l i) := fun i _ => FR h i
theorem Rt {k n off : Nat} {c0 cv lit : List PV} (hk : k < l.length) (he : c x' = lit) (hc : mJ (gL c0 off cv) lit) : ∀ j, j < n → mJ (ua (row c l) k (gL c0 off cv) j) (row c (l.set k x') j) := fun j _ => by
 rw [← he] at hc
 unfold row ua
 by_cases hj : j = k
 ·subst hj
  simpa [asM, hk] using hc
 ·have : Nat.beq j k = false := by
   cases hb : Nat.beq j k with
   | false => rfl
   | true => exact absurd (Of hb) hj
  rw [this]
  simp only [cond_false, asM, asS, atn (atH hj)]
  exact mJ.refl _
theorem bI {c0 cv new : List PV} {off : Nat} {f : Nat → List PV} (h : new = gL c0 off cv) : ∀ j, j < 1 → mJ (ua f 0 (gL c0 off cv) j) ((fun _ => new) j) := fun j hj => by
 obtain rfl : j = 0 := by omega
 subst h
 exact mJ.refl _
end
section
variable {α : Type} [Inhabited α] {c : α → List PV} {l m : List α} {x x' : α} {i lo hi : Int}
theorem aA (h : idx l i = some x) : 0 ≤ i ∧ i < (l.length : Int) := (bB h).1
theorem NR (h : idx l i = some x) : l[i.toNat]? = some x := by
 have hb := aA h
 have hl : i.toNat < l.length := by omega
 rw [← (bB h).2, asM, amb hl]; rfl
theorem NS (h : idx l i = some x) : i.toNat < l.length := by have hb := aA h; omega
theorem ax (h : idx l i = some x) : row c l i.toNat = c x := pn (NR h)
theorem NT {b : Nat} {n k : Int} {q : List α} (h : yU b n k = some q) : 0 ≤ n ∧ n ≤ k ∧ k ≤ 4611686018427387904 ∧ k.toNat * b ≤ 140737488355328 := (bB h).1
theorem ze {b : Nat} {n k : Int} {q : List α} (h : yU b n k = some q) : q.length = n.toNat := by rw [← (bB h).2]; simp
theorem Ib {b : Nat} {n k : Int} {q : List α} {z lit : List PV} (h : yU b n k = some q) (he : c default = lit) (hz : mJ z lit) : ∀ i, i < q.length → mJ z (row c q i) := fun i GW => by
 have hl := ze h
 rw [pn (x := default) (by rw [← (bB h).2, List.getElem?_replicate, if_pos avh]), he]
 exact hz
end
section
variable {h η : List ar} {k : List Nat}
theorem Ru {pv : PV} (hp : cc pv = true) : Fz h η k pv pv := by
 cases pv with
 | int k n => exact .int _ _
 | bool b => exact .bool _
 | str s => exact .str _
 | bm => exact .bm
 | dA => exact .dA
 | eG sz n f => exact .eG _ _ _ _ (fun _ _ => rfl)
 | eh cs => exact .eh _
 | fn f => exact .fn _
 | _ => cases hp
theorem nK : ∀ {l : List PV}, l.all cc = true → vn h η k l l
 | [], _ => trivial
 | a :: l, hp => by
  simp only [asL, As] at hp
  exact ⟨Ru hp.1, nK hp.2⟩
def Rv (h η : List ar) (k : List Nat) : List (Nat × Nat) → List (Nat × Nat) → Prop
 | [], [] => True
 | p :: r, p' :: r' => (k[p'.1]? = some p.1 ∧ (∃ sz n e f, h[p.1]? = some (ar.row p.2 sz n e f)) ∧ ∃ sz n e f, η[p'.1]? = some (ar.row p'.2 sz n e f) ∧ 0 < n) ∧ Rv h η k r r'
 | _, _ => False
theorem Rv.get : ∀ (l l' : List (Nat × Nat)), Rv h η k l l' → l'.length = l.length ∧ ∀ (j : Nat) (p p' : Nat × Nat), l[j]? = some p → l'[j]? = some p' →
  k[p'.1]? = some p.1 ∧ (∃ sz n e f, h[p.1]? = some (ar.row p.2 sz n e f)) ∧ ∃ sz n e f, η[p'.1]? = some (ar.row p'.2 sz n e f) ∧ 0 < n
 | [], [], _ => ⟨rfl, fun j p p' hj _ => by simp at hj⟩
 | [], _ :: _, hh => hh.elim
 | _ :: _, [], hh => hh.elim
 | q :: r, q' :: r', hh => by
  obtain ⟨h1, h2⟩ := hh
  obtain ⟨q1, q2⟩ := Rv.get r r' h2
  refine ⟨by simp [q1], fun j p p' hj FA => ?_⟩
  cases j with
  | zero =>
   simp at hj FA
   subst hj FA
   exact h1
  | succ j => exact q2 j p p' avr (by simpa using FA)
theorem NU {α : Type} {c : α → List PV} (hp : ∀ x, (c x).all cc = true) {id g sz n off : Nat} {e : TypeId} {f : Nat → List PV} {l : List α} (hk : id ∉ k) (ho : h[id]? = some (ar.row g sz n e f)) (hs : xg c f off l) :
  Fz h η k (.own id g off l.length) (sl sz c l) :=
 .NJ hk ho rfl rfl (fun i hi => lp hp i) (fun i hi => by rw [hs i hi]; exact nK (lp hp i))
theorem Rw {α : Type} {c : α → List PV} (hp : ∀ x, (c x).all cc = true) {id g sz n off len : Nat} {e : TypeId} {f : Nat → List PV} {l : List α} (hk : id ∉ k) (ho : h[id]? = some (ar.row g sz n e f)) (hs : xg c f off l) (hl : len = l.length) :
  Fz h η k (.own id g off len) (sl sz c l) := by subst hl; exact NU hp hk ho hs
end
theorem Em {α : Type} {c : α → List PV} (hp : ∀ x, (c x).all cc = true) (N g sz n : Nat) (e : TypeId) (l : List α) : fY N (.row g sz n e (row c l)) = .row g sz n e (row c l) := by
 suffices e : (fun i => (row c l i).map (mf N)) = row c l by unfold fY; simp only [e]
 funext i
 have h := lp (l := l) hp i
 generalize row c l i = q at h
 induction q with
 | nil => rfl
 | cons a r ih =>
  simp only [asL, As] at h
  rw [adr, ih h.2]
  cases a <;> first | rfl | cases h.1
theorem CJ {α : Type} {c : α → List PV} (hp : ∀ x, (c x).all cc = true) (σ : Nat → Nat) (g sz n : Nat) (e : TypeId) (l : List α) : ph σ (.row g sz n e (row c l)) = .row g sz n e (row c l) := by
 suffices e : (fun i => (row c l i).map (lV σ)) = row c l by unfold ph; simp only [e]
 funext i
 have h := lp (l := l) hp i
 generalize row c l i = q at h
 induction q with
 | nil => rfl
 | cons a r ih =>
  simp only [asL, As] at h
  rw [adr, ih h.2]
  cases a <;> first | rfl | cases h.1
theorem ACall.aoy {P : Program} {f : FuncId} {args : List PV} {r0 : PV} (hA : ACall P f args [] (fun res h => res = r0 ∧ h = [])) (h : List ar) (hp : args.all NV = true) (hr : ∀ n, pO n r0 = r0) :
  ACall P f args h (fun res h' => res = r0 ∧ h' = h) :=
 (hA.frame h hp).mono (by rintro _ _ ⟨_, _, ⟨rfl, rfl⟩, rfl, rfl⟩; exact ⟨hr _, by simp⟩)
theorem ACall.aoz {P : Program} {f : FuncId} {args ke : List PV} {r0 : PV} (hA : ACall P f ke [] (fun res h => res = r0 ∧ h = [])) (h : List ar) (hz : vn h [] [] args ke) (hn : ke.all kI = true) (hf : FN r0 = true) (hr : ∀ n, pO n r0 = r0) :
  ACall P f args h (fun res h' => res = r0 ∧ h' = h) :=
 (hA.aot h hz hn (by rintro _ _ ⟨rfl, rfl⟩; exact ⟨hf, by simp⟩)).mono (by rintro _ _ ⟨_, _, ⟨rfl, rfl⟩, rfl, rfl⟩; exact ⟨hr _, by simp⟩)
section
variable {κ β : Type} [DecidableEq κ]
def mc (c : κ → PV) (d : β → PV) (p : κ × β) : List PV := [c p.1, d p.2]
end
theorem ln {a b : Nat} (h : a = b := by first | rfl | simp) : a = b := h
class oZ {α : Type} (c : α → List PV) : Prop where
 pure : ∀ x, (c x).all cc = true
instance : oZ cI := ⟨Ro⟩
instance (k : IntKind) : oZ (ack k) := ⟨Ia k⟩
instance : oZ cB := ⟨Rp⟩
instance : oZ cT := ⟨Rq⟩
instance : oZ cS := ⟨Rr⟩
instance {α : Type} (sz : Nat) (c : α → List PV) : oZ (cL sz c) := ⟨Rs sz c⟩
instance (a b : IntKind) : oZ (mc (PV.int a) (PV.int b)) := ⟨fun _ => rfl⟩
instance (a : IntKind) : oZ (mc (PV.int a) PV.bool) := ⟨fun _ => rfl⟩
instance (a : IntKind) : oZ (mc (PV.int a) PV.str) := ⟨fun _ => rfl⟩
instance (b : IntKind) : oZ (mc PV.str (PV.int b)) := ⟨fun _ => rfl⟩
instance : oZ (mc PV.str PV.bool) := ⟨fun _ => rfl⟩
instance : oZ (mc PV.str PV.str) := ⟨fun _ => rfl⟩
def Wx {α : Type} (l : List α) (off : Nat) (s : List α) : List α := l.mapIdx fun i x => if i < off then x else if i < off + s.length then s.getD (i - off) x else x
@[simp] theorem acL {α : Type} (l : List α) (off : Nat) (s : List α) : (Wx l off s).length = l.length := by unfold Wx; simp
section
variable {h η : List ar} {k : List Nat}
theorem Fz.i {q : IntKind} {a b : Int} (e : a = b := by rfl) : Fz h η k (.int q a) (.int q b) := .int_eq e
theorem Fz.b {a b : Bool} (e : a = b := by rfl) : Fz h η k (.bool a) (.bool b) := .FL e
theorem Fz.s {a b : List UInt8} (e : a = b := by rfl) : Fz h η k (.str a) (.str b) := .Al e
theorem Fz.l {sz n : Nat} {f : Nat → List PV} : Fz h η k (.eG sz n f) (.eG sz n f) := .eG _ _ _ _ (fun _ _ => rfl)
theorem Fz.z {α : Type} {c : α → List PV} {sz : Nat} : Fz h η k .bm (sl sz c []) := .Wy _ _
theorem Fz.g {id id' g' bx : Nat} {e' : TypeId} {f' : Nat → List PV} (hk : k[id']? = some id := by rfl) (ho : h[id]? = none := by rfl) (hη : η[id']? = some (ar.row g' bx 0 e' f') := by rfl) : Fz h η k .bm (.own id' g' 0 0) := .aoA id id' g' bx e' f' hk ho hη
theorem Fz.o {id id' g g' sz bx n len : Nat} {e e' : TypeId} {f f' : Nat → List PV} (hk : k[id']? = some id := by rfl) (ho : h[id]? = some (ar.row g sz n e f) := by rfl) (hη : η[id']? = some (ar.row g' bx len e' f') := by rfl) : Fz h η k (.own id g 0 len) (.own id' g' 0 len) :=
 .own _ _ _ _ _ _ _ _ _ _ _ _ _ _ hk ho hη (Nat.le_of_eq (asN _))
theorem Fz.ox {id id' g g' sz bx n len uf : Nat} {e e' : TypeId} {f f' : Nat → List PV} (hl : len = uf) (hk : k[id']? = some id := by rfl) (ho : h[id]? = some (ar.row g sz n e f) := by rfl) (hη : η[id']? = some (ar.row g' bx uf e' f') := by rfl) : Fz h η k (.own id g 0 len) (.own id' g' 0 uf) := by
 subst hl; exact Fz.o hk ho hη
theorem Fz.p {id id' g g' sz bx n n' off : Nat} {e e' : TypeId} {f f' : Nat → List PV} (hk : k[id']? = some id := by rfl) (ho : h[id]? = some (ar.row g sz n e f) := by rfl) (hη : η[id']? = some (ar.row g' bx (n' + 1) e' f') := by rfl) : Fz h η k (.aL id g 0 off) (.aL id' g' 0 off) :=
 .aL _ _ _ _ _ _ _ _ _ _ _ _ _ _ hk ho hη (Nat.succ_pos _)
theorem Fz.m {id id' g g' sz bx n n' : Nat} {e e' : TypeId} {f f' : Nat → List PV} (hk : k[id']? = some id := by rfl) (ho : h[id]? = some (ar.row g sz n e f) := by rfl) (hη : η[id']? = some (ar.row g' bx n' e' f') := by rfl) : Fz h η k (.lj id) (.lj id') :=
 .lj _ _ _ _ _ _ _ _ _ _ _ _ hk ho hη
theorem Fz.j {pv : PV} : Fz h η k pv .gv := .gv _
theorem Fz.f {n : Nat} : Fz h η k (.fn n) (.fn n) := .fn _
theorem Fz.r {α : Type} {c : α → List PV} [oZ c] {id g sz n : Nat} {e : TypeId} {l : List α} (ho : h[id]? = some (ar.row g sz n e (row c l)) := by rfl) (hk : id ∉ k := by first | decide | simp) : Fz h η k (.own id g 0 l.length) (sl sz c l) := NU oZ.pure hk ho aN
theorem Fz.rx {α : Type} {c : α → List PV} [oZ c] {id g sz n len : Nat} {e : TypeId} {l : List α} (hl : len = l.length) (ho : h[id]? = some (ar.row g sz n e (row c l)) := by rfl) (hk : id ∉ k := by first | decide | simp) : Fz h η k (.own id g 0 len) (sl sz c l) := Rw oZ.pure hk ho aN hl
variable {m : Nat}
theorem od {α : Type} {c : α → List PV} [oZ c] {id g sz : Nat} {e : TypeId} {l : List α} (ho : h[id]? = some (ar.row g sz l.length e (row c l)) := by rfl) : xh h η k m (.row g sz l.length e (row c l)) id id := by
 unfold xh; rw [ho]; exact ⟨fun _ => ⟨rfl, rfl⟩, rfl, .inl rfl, rfl, fun i _ => nK (lp oZ.pure i)⟩
theorem ob {id g sz : Nat} {e : TypeId} {a b : List PV} (ho : h[id]? = some (ar.row g sz 1 e (fun _ => a))) (F : vn h η k a b) : xh h η k m (.row g sz 1 e (fun _ => b)) id id := by
 unfold xh; rw [ho]; exact ⟨fun _ => ⟨rfl, rfl⟩, rfl, .inl rfl, rfl, fun i _ => F⟩
theorem nw {α : Type} {c : α → List PV} [oZ c] {i id g g' sz : Nat} {e : TypeId} {l : List α} (hi : Nat.ble m i = true := by rfl) (ho : h[id]? = some (ar.row g sz l.length e (row c l)) := by rfl) : xh h η k m (.row g' sz l.length e (row c l)) i id := by
 unfold xh; rw [ho]; exact ⟨fun h0 => absurd h0 (Nat.not_lt.2 (asW hi)), rfl, .inl rfl, rfl, fun i _ => nK (lp oZ.pure i)⟩
theorem nwx {α : Type} {c : α → List PV} [oZ c] {i id g g' sz n n' : Nat} {e : TypeId} {l : List α} (ho : h[id]? = some (ar.row g sz n e (row c l))) (hn : n' = n) (hi : Nat.ble m i = true := by rfl) : xh h η k m (.row g' sz n' e (row c l)) i id := by
 unfold xh; rw [ho]; exact ⟨fun h0 => absurd h0 (Nat.not_lt.2 (asW hi)), rfl, .inl hn, rfl, fun i _ => nK (lp oZ.pure i)⟩
theorem nb {i id g g' sz : Nat} {e : TypeId} {a b : List PV} (ho : h[id]? = some (ar.row g sz 1 e (fun _ => a))) (F : vn h η k a b) (hi : Nat.ble m i = true := by rfl) : xh h η k m (.row g' sz 1 e (fun _ => b)) i id := by
 unfold xh; rw [ho]; exact ⟨fun h0 => absurd h0 (Nat.not_lt.2 (asW hi)), rfl, .inl rfl, rfl, fun i _ => F⟩
theorem bZ {i id g g' sz : Nat} {e : TypeId} {a : List PV} (ho : h[id]? = some (ar.row g sz 1 e (fun _ => a))) (hp : a.all cc = true := by rfl) (hi : Nat.ble m i = true := by rfl) : xh h η k m (.row g' sz 1 e (fun _ => a)) i id := nb ho (nK hp) hi
theorem dd {i id : Nat} : xh h η k m .dead i id := by unfold xh; trivial
theorem tk {env : Env} {σ : List (Nat × PV)} (k : List Nat) (he : FT h η k env σ) (hh : mh h η k m 0 η k) (hd : lE (lq η k) = true := by rfl) (hl : Nat.ble m k.length = true := by rfl) : pQ m env h σ η := ⟨k, hd, asW hl, he, hh⟩
theorem ct {J : List (Nat × PV) → List ar → Prop} {env : Env} {σ : List (Nat × PV)} (hj : J σ η) (ht : pQ m env h σ η) : ta m J env h := .mk σ η ht hj
theorem lg {body : (Env → List ar → Prop) → Env → List ar → Prop} {env : Env} {σ : List (Nat × PV)} (hj : aG m body σ η) (ht : pQ m env h σ η) : loopGo m body env h := .mk σ η ht hj
theorem le {body : (Env → List ar → Prop) → Env → List ar → Prop} {env : Env} {σ : List (Nat × PV)} (hj : aG m body σ η) (ht : pQ m env h σ η) : mL m body env h := .take σ η ht hj
theorem en {R : PV → List ar → Prop} {vs : List PV} {res : PV} (k : List Nat) (hR : R res η) (F : Fz h η k (oneOf vs) res) (hh : mh h η k m 0 η k) (hd : lE (lq η k) = true := by rfl) (hl : Nat.ble m k.length = true := by rfl) (hn : vs.all kI = true := by rfl) : Ends m R h vs := by
 exact .mk hn k res η hd (asW hl) F hh hR
theorem eB {a r : Bool} (hh : some a = some r) : Ends 0 (fun res h => res = .bool r ∧ h = []) h [.bool a] := .mk rfl [] _ [] rfl (asA _) (.FL (ato hh)) trivial ⟨rfl, rfl⟩
theorem eI {q : IntKind} {a r : Int} (hh : some a = some r) : Ends 0 (fun res h => res = .int q r ∧ h = []) h [.int q a] := .mk rfl [] _ [] rfl (asA _) (.int_eq (ato hh)) trivial ⟨rfl, rfl⟩
theorem eS {a r : List UInt8} (hh : some a = some r) : Ends 0 (fun res h => res = .str r ∧ h = []) h [.str a] := .mk rfl [] _ [] rfl (asA _) (.Al (ato hh)) trivial ⟨rfl, rfl⟩
end
section
variable {α : Type} {x y r : α} {T F : Prop}
theorem sD {c : Prop} [Decidable c] (h : (if c then x else y) = r) (kT : decide c = true → x = r → T) (kF : decide c = false → y = r → F) : eK (decide c) T F := .mk (fun hb => kT hb (aou hb h)) (fun hb => kF hb (aov hb h))
theorem sE {β : Type} [BEq β] [LawfulBEq β] {a b : β} [Decidable (a = b)] (h : (if a = b then x else y) = r) (kT : (a == b) = true → x = r → T) (kF : (a == b) = false → y = r → F) : eK (a == b) T F := .mk (fun hb => kT hb (NL hb h)) (fun hb => kF hb (NM hb h))
theorem Pd {β : Type} [BEq β] [LawfulBEq β] {a b : β} [Decidable (a = b)] (h : (if a = b then x else y) = r) (kT : (!(a == b)) = true → y = r → T) (kF : (!(a == b)) = false → x = r → F) : eK (!(a == b)) T F := .mk (fun hb => kT hb (NM (Ww hb) h)) (fun hb => kF hb (NL (Wv hb) h))
theorem sN {β : Type} [BEq β] [LawfulBEq β] {a b : β} [Decidable (a = b)] (h : (if a = b then x else y) = r) (kT : (a != b) = true → y = r → T) (kF : (a != b) = false → x = r → F) : eK (a != b) T F := .mk (fun hb => kT hb (aow hb h)) (fun hb => kF hb (aox hb h))
theorem sV {b : Bool} (h : (if b = true then x else y) = r) (kT : b = true → x = r → T) (kF : b = false → y = r → F) : eK b T F := .mk (fun hb => kT hb (Wt hb h)) (fun hb => kF hb (Wu hb h))
theorem jV {b : Bool} (h : (if b = true then x else y) = r) (kT : (!b) = true → y = r → T) (kF : (!b) = false → x = r → F) : eK (!b) T F := .mk (fun hb => kT hb (Wu (Ww hb) h)) (fun hb => kF hb (Wt (Wv hb) h))
end
theorem eK.t {T F : Prop} (h : T) : eK true T F := NN h
theorem eK.f {T F : Prop} (h : F) : eK false T F := NO h
theorem eK.kt {b : Bool} {T F : Prop} (hb : b = true) (h : T) : eK b T F := H9 hb h
theorem pR.d {m : Nat} {A B : XQ → Env → List ar → Prop} {Q : XQ} {env : Env} {h : List ar} (hd : A (XQ.then (B Q) Q) env h) : pR m A B Q env h := .direct hd
inductive Nz : PV → PV → Prop
 | same (a : PV) : Nz a a
 | nil (sz : Nat) (f : Nat → List PV) : Nz .bm (.eG sz 0 f)
def NzL : List PV → List PV → Prop
 | [], [] => True
 | a :: l, b :: r => Nz a b ∧ NzL l r
 | _, _ => False
inductive NzA : PV → PV → Prop
 | same (a : PV) : NzA a a
 | nil (sz : Nat) (f : Nat → List PV) : NzA .bm (.eG sz 0 f)
 | agg {cs tP : List PV} (h : NzL cs tP) : NzA (.agg cs) (.agg tP)
def Rx : List PV → List PV → Prop
 | [], [] => True
 | a :: l, b :: r => NzA a b ∧ Rx l r
 | _, _ => False
theorem NzL.get : ∀ {l r : List PV}, NzL l r → r.length = l.length ∧ ∀ (j : Nat) (p : PV), r[j]? = some p → ∃ q : PV, l[j]? = some q ∧ Nz q p
 | [], [], _ => ⟨rfl, fun j p h => by simp at h⟩
 | a :: l, b :: r, h => by
  obtain ⟨h1, h2⟩ := NzL.get h.2
  refine ⟨by simp [h1], fun j p hj => ?_⟩
  cases j with
  | zero => simp at hj; subst hj; exact ⟨a, rfl, h.1⟩
  | succ j => obtain ⟨q, q1, q2⟩ := h2 j p avr; exact ⟨q, by simpa using q1, q2⟩
 | [], _ :: _, h => h.elim
 | _ :: _, [], h => h.elim
theorem Rx.get : ∀ {l r : List PV}, Rx l r → r.length = l.length ∧ ∀ (j : Nat) (p : PV), r[j]? = some p → ∃ q : PV, l[j]? = some q ∧ NzA q p
 | [], [], _ => ⟨rfl, fun j p h => by simp at h⟩
 | a :: l, b :: r, h => by
  obtain ⟨h1, h2⟩ := Rx.get h.2
  refine ⟨by simp [h1], fun j p hj => ?_⟩
  cases j with
  | zero => simp at hj; subst hj; exact ⟨a, rfl, h.1⟩
  | succ j => obtain ⟨q, q1, q2⟩ := h2 j p avr; exact ⟨q, by simpa using q1, q2⟩
 | [], _ :: _, h => h.elim
 | _ :: _, [], h => h.elim
section
variable {P : Program} {f : FuncId} {args : List PV} {h : List ar} {K : PV → List ar → Prop} {r0 : PV}
theorem aR (hA : ACall P f args [] (fun res h => res = r0 ∧ h = [])) (k : K r0 h) (hp : args.all NV = true := by rfl) (hr : ∀ n, pO n r0 = r0 := by intro _; rfl) : su P f args h K :=
 ⟨_, hA.aoy h hp hr, by rintro _ _ ⟨rfl, rfl⟩; exact k⟩
theorem pcS {ke : List PV} (hA : ACall P f ke [] (fun res h => res = r0 ∧ h = [])) (hz : vn h [] [] args ke) (k : K r0 h) (hn : ke.all kI = true := by rfl) (hf : FN r0 = true := by rfl) (hr : ∀ n, pO n r0 = r0 := by intro _; rfl) : su P f args h K :=
 ⟨_, hA.aoz h hz hn hf hr, by rintro _ _ ⟨rfl, rfl⟩; exact k⟩
theorem shr {α : Type} {c : α → List PV} [oZ c] (N g sz n : Nat) (e : TypeId) (l : List α) : fY N (.row g sz n e (row c l)) = .row g sz n e (row c l) := Em oZ.pure N g sz n e l
theorem jc {α : Type} {c : α → List PV} [oZ c] (σ : Nat → Nat) (g sz n : Nat) (e : TypeId) (l : List α) : ph σ (.row g sz n e (row c l)) = .row g sz n e (row c l) := CJ oZ.pure σ g sz n e l
def U7 (h : List ar) (σ : Nat → Nat) : List ar → List Nat → Prop
 | [], _ => True
 | o :: r, i :: is => h[i]? = some (ph σ o) ∧ U7 h σ r is
 | _ :: _, [] => False
theorem U7.get {h : List ar} {σ : Nat → Nat} : ∀ {hc : List ar} {is : List Nat}, U7 h σ hc is → ∀ (j : Nat) (o : ar), hc[j]? = some o → ∃ i : Nat, is[j]? = some i ∧ h[i]? = some (ph σ o)
 | [], _, _, j, o, hj => by simp at hj
 | a :: r, [], hh, _, _, _ => hh.elim
 | a :: r, i :: is, hh, 0, o, hj => by simp at hj; subst hj; exact ⟨i, rfl, hh.1⟩
 | a :: r, i :: is, hh, j + 1, o, hj => by
  obtain ⟨q, h1, h2⟩ := U7.get hh.2 j o avr
  exact ⟨q, by simpa using h1, h2⟩
theorem ov {α : Type} {c : α → List PV} [oZ c] {σ : Nat → Nat} {g sz n : Nat} {e : TypeId} {l : List α} {x : Option ar} (hx : x = some (.row g sz n e (row c l)) := by rfl) : x = some (ph σ (.row g sz n e (row c l))) := by rw [CJ oZ.pure]; exact hx
theorem ACall.Li {hc : List ar} {args k9 : List PV} {R : PV → List ar → Prop} (hA : ACall P f args hc R) (is : List Nat) (h : List ar) (gF : U7 h (fO is h.length) hc is) (hl : hc.length = is.length) (hd : is.Nodup) (cM : is.all (fun id => Nat.blt id h.length) = true)
  (nv : k9 = args.map (wy (fO is h.length))) : ACall P f k9 h (fun res h' => ∃ r0 h0, R r0 h0 ∧ res = DH (fO is h.length) r0 ∧ h' = bO h is h0) :=
 hA.over is h hl hd (fun id hid => asW (asH.1 cM id hid)) (fun j o hj => by
  obtain ⟨i, h1, h2⟩ := gF.get j o hj
  unfold fO; rw [h1]; exact h2) nv
theorem pcO {hc h0 : List ar} {args k9 : List PV} (hA : ACall P f args hc (fun res h => res = r0 ∧ h = h0)) (is : List Nat) (gF : U7 h (fO is h.length) hc is) (r1 : PV) (h1 : List ar) (k : K r1 h1) (e2 : bO h is h0 = h1 := by simp only [bO, aK, adr, asB, List.drop, an, mg, jc]; rfl) (e1 : DH (fO is h.length) r0 = r1 := by rfl)
  (hl : hc.length = is.length := by rfl) (hd : is.Nodup := by decide) (cM : is.all (fun id => Nat.blt id h.length) = true := by rfl) (nv : k9 = args.map (wy (fO is h.length)) := by rfl) : su P f k9 h K :=
 ⟨_, hA.Li is h gF hl hd cM nv, by rintro _ _ ⟨_, _, ⟨rfl, rfl⟩, rfl, rfl⟩; rw [e1, e2]; exact k⟩
end
theorem si {α : Type} {a b : α} (h : some a = some b) : a = b := ato h
theorem bk {α β : Type} {x : Option α} {f : α → Option β} {r : β} {G : Prop} (h : (x >>= f) = some r) (k : ∀ a, x = some a → f a = some r → G) : G := by
 obtain ⟨a, h1, h2⟩ := bind_some h
 exact k a h1 h2
theorem bd {α β : Type} {x : Option α} {f : α → Option β} {r : β} (h : (x >>= f) = some r) : ∃ a, x = some a ∧ f a = some r := bind_some h
structure DR {α : Type} (D : List PV → α → Prop) (n : Nat) (f : Nat → List PV) (l : List α) : Prop where
 len : l.length = n
 at_ : ∀ i (h : i < l.length), D (f i) l[i]
 z : ∀ i, n ≤ i → f i = []
inductive OD1 : PV → PV → Prop
 | p {a : PV} (h : cc a = true) : OD1 a a
 | o {a b : PV} (h : xi a b) : OD1 a b
def CK : List PV → List PV → Prop
 | [], [] => True
 | a :: l, b :: r => OD1 a b ∧ CK l r
 | _, _ => False
class Dcl {α : Type} (D : List PV → α → Prop) (c : outParam (α → List PV)) : Prop where
 frz : ∀ cs x, D cs x → CK cs (c x)
def DEq {α : Type} (c : α → List PV) : List PV → α → Prop := fun cs x => cs = c x
theorem CK.len : ∀ {l r : List PV}, CK l r → r.length = l.length
 | [], [], _ => rfl
 | a :: l, b :: r, h => congrArg (· + 1) (CK.len h.2)
 | [], _ :: _, h => h.elim
 | _ :: _, [], h => h.elim
theorem CK.get : ∀ {l r : List PV}, CK l r → ∀ {j : Nat} {a b : PV}, l[j]? = some a → r[j]? = some b → OD1 a b
 | a :: l, b :: r, h, 0, x, y, hx, hy => by simp at hx hy; subst hx hy; exact h.1
 | a :: l, b :: r, h, j + 1, x, y, hx, hy => CK.get h.2 (by simpa using hx) avA
 | [], _, h, j, x, y, hx, hy => by simp at hx
 | _ :: _, [], h, _, _, _, _, _ => h.elim
theorem CK.pure : ∀ {l : List PV}, l.all cc = true → CK l l
 | [], _ => trivial
 | a :: l, h => by
  simp only [asL, As] at h
  exact ⟨.p h.1, CK.pure h.2⟩
theorem xi.isO {a b : PV} (h : xi a b) : eL a = true := by cases h; rfl
theorem xi.NW {a b : PV} (h : xi a b) : cc b = true := by cases h; rfl
theorem OD1.NW {a b : PV} (h : OD1 a b) : cc b = true := by
 cases h with
 | p h => exact h
 | o h => exact h.NW
instance {α : Type} (c : α → List PV) [hp : oZ c] : Dcl (DEq c) c := ⟨fun cs x h => by
 have h : cs = c x := h
 subst h; exact CK.pure (hp.pure x)⟩
theorem En {a : PV} (h : eL a = true) : cc a = false := by cases a <;> first | rfl | cases h
section
variable {α : Type} {D : List PV → α → Prop} {c : α → List PV} {n : Nat} {f : Nat → List PV} {l : List α}
theorem NX (hD : ∀ i (h : i < l.length), CK (f i) (c l[i])) (hl : l.length = n) (sz : Nat) (e : TypeId) (F : Nat → Prop) : xi (.fJ sz n e f F) (sl sz c l) := by
 subst hl
 have at_ : ∀ i, i < l.length → CK (f i) (row c l i) := fun i hi => by rw [lX hi]; exact hD i hi
 refine .mk sz l.length e f (row c l) F (fun i hi => (at_ i hi).len) (fun i j pv ew hi h1 h2 hn => ?_) (fun i j pv ew hi h1 h2 hn => ?_) (fun i j ew hi h2 => ?_)
 ·cases (at_ i hi).get h1 h2 with
  | p _ => rfl
  | o h => rw [h.isO] at hn; cases hn
 ·cases (at_ i hi).get h1 h2 with
  | p h => rw [En hn] at h; cases h
  | o h => exact h
 ·have hj : j < (f i).length := by rw [← (at_ i hi).len]; exact (At.1 h2).1
  exact ((at_ i hi).get (amb hj) h2).NW
theorem DR.od [hc : Dcl D c] (d : DR D n f l) : ∀ i (h : i < l.length), CK (f i) (c l[i]) := fun i h => hc.frz _ _ (d.at_ i h)
theorem DR.nil : DR D 0 (fun _ => []) [] := ⟨rfl, fun i h => absurd h (atq _), fun _ _ => rfl⟩
theorem FU {f : Nat → List PV} {i : Nat} {cs : List PV} : ua f i cs i = cs := by
 unfold ua
 rw [show Nat.beq i i = true from atF i]
 rfl
theorem vI {f : Nat → List PV} {i k : Nat} {cs : List PV} (h : k ≠ i) : ua f i cs k = f k := by
 unfold ua
 rw [show Nat.beq k i = false from Bool.eq_false_iff.2 (fun q => h (Of q))]
 rfl
theorem DR.set (d : DR D n f l) {i : Nat} (hi : i < l.length) {cs : List PV} {x : α} (hx : D cs x) : DR D n (ua f i cs) (l.set i x) := by
 refine ⟨by rw [atU]; exact d.len, fun k hk => ?_, fun k hk => ?_⟩
 ·rw [atU] at hk
  rw [List.getElem_set]
  by_cases h : i = k
  ·subst h; rw [if_pos rfl, FU]; exact hx
  ·rw [if_neg h, vI (atH h)]; exact d.at_ k hk
 ·have := d.len
  rw [vI avh]; exact d.z k hk
theorem DR.app (d : DR D n f l) {cs : List PV} {x : α} (hx : D cs x) : DR D (n + 1) (ua f n cs) (l ++ [x]) := by
 have hl := d.len
 refine ⟨by simp [hl], fun k hk => ?_, fun k hk => ?_⟩
 ·by_cases h : k = n
  ·subst h
   rw [FU, List.getElem_append_right avh]
   simp only [hl, atz, auc]
   exact hx
  ·rw [vI h, atZ (by simp at hk; omega)]; exact d.at_ k (by simp at hk; omega)
 ·rw [vI avh]; exact d.z k avh
theorem DR.idx [Inhabited α] (d : DR D n f l) {i : Int} {x : α} (h : Go.Am.idx l i = some x) : D (f i.toNat) x := by
 have h1 := NR h
 obtain ⟨h2, h3⟩ := At.1 h1
 rw [← h3]; exact d.at_ _ h2
theorem DR.lt [Inhabited α] (d : DR D n f l) {i : Int} {x : α} (h : Go.Am.idx l i = some x) : i.toNat < n := by rw [← d.len]; exact NS h
theorem DR.bd [Inhabited α] (d : DR D n f l) {i : Int} {x : α} (h : Go.Am.idx l i = some x) : 0 ≤ i ∧ i < (n : Int) := by rw [← d.len]; exact aA h
variable {h η : List ar} {k : List Nat} {m : Nat}
theorem Fz.od {id id' g g' sz bx n0 n1 n2 n3 : Nat} {e e' : TypeId} {f f' : Nat → List PV} (h1 : n1 = n2 := by first | rfl | simp [*]) (h2 : n2 = n3 := by first | rfl | simp [*]) (hk : k[id']? = some id := by rfl) (ho : h[id]? = some (ar.row g sz n0 e f) := by rfl) (hη : η[id']? = some (ar.row g' bx n3 e' f') := by rfl) : Fz h η k (.own id g 0 n1) (.own id' g' 0 n2) := by
 subst h1 h2
 exact .own _ _ _ _ _ _ _ _ _ _ _ _ _ _ hk ho hη (Nat.le_of_eq (asN _))
end
section
variable {P : Program} {f : FuncId} {args : List PV} {h : List ar} {K : PV → List ar → Prop} {R : PV → List ar → Prop}
theorem cp {hc : List ar} {k9 : List PV} (hA : ACall P f args hc R) (is : List Nat) (gF : U7 h (fO is h.length) hc is)
  (k : ∀ r0 h0, R r0 h0 → ∃ r1 h1, DH (fO is h.length) r0 = r1 ∧ bO h is h0 = h1 ∧ K r1 h1)
  (nv : k9 = args.map (wy (fO is h.length)) := by rfl) (hl : hc.length = is.length := by rfl) (hd : is.Nodup := by decide) (cM : is.all (fun id => Nat.blt id h.length) = true := by rfl) : su P f k9 h K :=
 ⟨_, hA.Li is h gF hl hd cM nv, by
  rintro _ _ ⟨r0, h0, hR, rfl, rfl⟩
  obtain ⟨r1, h1, rfl, rfl, hk⟩ := k r0 h0 hR
  exact hk⟩
end
def pS (cs : List PV) : Prop := ∀ c ∈ cs, (eL c = false → mi c = true) ∧ (eL c = true → OG (fun pv => mi pv = true) c)
class Fl1 {α : Type} (c : α → List PV) : Prop where
 fl : ∀ x, (c x).all mi = true
class Dfl {α : Type} (D : List PV → α → Prop) : Prop where
 fl : ∀ cs x, D cs x → pS cs
instance : Fl1 cI := ⟨fun _ => rfl⟩
instance (k : IntKind) : Fl1 (ack k) := ⟨fun _ => rfl⟩
instance : Fl1 cB := ⟨fun _ => rfl⟩
instance : Fl1 cT := ⟨fun _ => rfl⟩
instance : Fl1 cS := ⟨fun _ => rfl⟩
theorem CL {a : PV} (h : mi a = true) : eL a = false := by cases a <;> first | rfl | cases h
theorem arL : pS [] := fun c hc => absurd hc aun
theorem aco {a : PV} {l : List PV} (t : pS l) (h : mi a = true := by rfl) : pS (a :: l) := fun c hc => by
 rcases asI.1 hc with rfl | hc
 ·exact ⟨fun _ => h, fun q => by rw [CL h] at q; cases q⟩
 ·exact t c hc
theorem acp {l : List PV} (h : l.all mi = true) : pS l := fun c hc => ⟨fun _ => asH.1 h c hc, fun q => by rw [CL (asH.1 h c hc)] at q; cases q⟩
theorem aoB {sz n : Nat} {e : TypeId} {f : Nat → List PV} {F : Nat → Prop} (h : ∀ i, i < n → pS (f i)) : OG (fun pv => mi pv = true) (.fJ sz n e f F) :=
 .mk sz n e f F (fun i j pv hi hj hn => (h i hi pv (asP hj)).1 hn) (fun i j _ _ _ _ _ hi hj => (h i hi _ (asP hj)).2 rfl)
theorem arM {sz n : Nat} {e : TypeId} {f : Nat → List PV} {F : Nat → Prop} {l : List PV} (h : ∀ i, i < n → pS (f i)) (t : pS l) : pS (.fJ sz n e f F :: l) := fun c hc => by
 rcases asI.1 hc with rfl | hc
 ·exact ⟨fun q => (by cases q), fun _ => aoB h⟩
 ·exact t c hc
instance {α : Type} (c : α → List PV) [h : Fl1 c] : Dfl (DEq c) := ⟨fun cs x q => by
 have q : cs = c x := q
 subst q; exact acp (h.fl x)⟩
theorem CM : ∀ {l : List PV}, l.all cc = true → noO l = true
 | [], _ => rfl
 | a :: l, h => by
  simp only [asL, As] at h
  have := CM h.2
  cases a <;> first | exact this | (have h1 := h.1; cases h1)
theorem lF {α : Type} {c : α → List PV} [hp : oZ c] {f : Nat → List PV} {off : Nat} {l : List α} (hs : xg c f off l) : ∀ i, i < l.length → noO (f (off + i)) = true := fun i hi => by
 rw [hs i hi]; exact CM (lp hp.pure i)
section
variable {α : Type} {D : List PV → α → Prop} {n : Nat} {f : Nat → List PV} {l q : List α} {x : α} {b : Nat}
theorem NY (h : n8 b l [x] = some q) : l ++ [x] = q := (bB h).2
theorem DR.ln (d : DR D n f l) (h : n8 b l [x] = some q) : q.length = n + 1 := by
 have h1 := NY h
 subst h1
 simp [d.len]
end
end Go.Am
namespace Go.Am
open Go Go.RowKit Go.Proofs
mutual
inductive ae where
 | mk (ai : Int) (aC : Int) (aj : aq) (ah : List ae)
end
def ae.ai : ae → Int | .mk x _ _ _ => x
def ae.aC : ae → Int | .mk _ x _ _ => x
def ae.aj : ae → aq | .mk _ _ x _ => x
def ae.ah : ae → List ae | .mk _ _ _ x => x
@[simp] theorem ae.nE (a0 : Int) (a1 : Int) (a2 : aq) (a3 : List ae) : (ae.mk a0 a1 a2 a3).ai = a0 := rfl
@[simp] theorem ae.oa (a0 : Int) (a1 : Int) (a2 : aq) (a3 : List ae) : (ae.mk a0 a1 a2 a3).aC = a1 := rfl
@[simp] theorem ae.lZ (a0 : Int) (a1 : Int) (a2 : aq) (a3 : List ae) : (ae.mk a0 a1 a2 a3).aj = a2 := rfl
@[simp] theorem ae.kD (a0 : Int) (a1 : Int) (a2 : aq) (a3 : List ae) : (ae.mk a0 a1 a2 a3).ah = a3 := rfl
instance : Inhabited ae := ⟨.mk 0 0 [] []⟩
mutual
def ae.cells : ae → List PV | .mk a0 a1 a2 a3 => [.int .i64 a0] ++ [.int .i64 a1] ++ [.str a2] ++ [.eG 4 a3.length (fun i => (ae.AS a3).getD i [])]
def ae.AS : List ae → List (List PV) | [] => [] | x :: r => x.cells :: ae.AS r
end
theorem ae.xj : ∀ (l : List ae), ae.AS l = l.map ae.cells
 | [] => rfl
 | a :: r => by unfold ae.AS; rw [ae.xj r]; rfl
abbrev ae.lit (x : ae) : List PV := [.int .i64 x.ai, .int .i64 x.aC, .str x.aj, sl 4 ae.cells x.ah]
theorem ae.au (x : ae) : x.cells = x.lit := by
 cases x with
 | mk a0 a1 a2 a3 =>
  unfold ae.cells
  rw [ae.xj]
  rfl
theorem ae.fK (x : ae) : x.cells.all cc = true := by rw [ae.au]; rfl
instance : oZ ae.cells := ⟨ae.fK⟩
structure aE where
 asr : Unit
 ao : List UInt8
 deriving DecidableEq, Inhabited
structure av where
 af : aE
 deriving DecidableEq, Inhabited
structure jt where
 ai : Int
 aC : Int
 aj : aq
 fAt : Int
 deriving DecidableEq, Inhabited
abbrev jt.lit (x : jt) : List PV := [.int .i64 x.ai, .int .i64 x.aC, .str x.aj, .int .i64 x.fAt]
def jt.cells (x : jt) : List PV := x.lit
theorem jt.au (x : jt) : x.cells = x.lit := rfl
theorem jt.fK (x : jt) : x.cells.all cc = true := rfl
instance : oZ jt.cells := ⟨jt.fK⟩
structure qH where
 fT : List jt
 fI : Int
 acq : Int
 acr : Int
 deriving DecidableEq, Inhabited
abbrev qH.lit (x : qH) : List PV := [sl 4 jt.cells x.fT, .int .i64 x.fI, .int .i64 x.acq, .int .i64 x.acr]
def qH.cells (x : qH) : List PV := x.lit
theorem qH.au (x : qH) : x.cells = x.lit := rfl
theorem qH.fK (x : qH) : x.cells.all cc = true := rfl
instance : oZ qH.cells := ⟨qH.fK⟩
structure k5 where
 Ry : List jt
 fAt : Int
 acq : Int
 acr : Bool
 deriving DecidableEq, Inhabited
abbrev k5.lit (x : k5) : List PV := [sl 4 jt.cells x.Ry, .int .i64 x.fAt, .int .i64 x.acq, .bool x.acr]
def k5.cells (x : k5) : List PV := x.lit
theorem k5.au (x : k5) : x.cells = x.lit := rfl
theorem k5.fK (x : k5) : x.cells.all cc = true := rfl
instance : oZ k5.cells := ⟨k5.fK⟩
structure nd where
 fS : aq
 fAt : Int
 arN : List jt
 aoC : Int
 deriving DecidableEq, Inhabited
abbrev nd.lit (x : nd) : List PV := [.str x.fS, .int .i64 x.fAt, sl 4 jt.cells x.arN, .int .i64 x.aoC]
def nd.cells (x : nd) : List PV := x.lit
theorem nd.au (x : nd) : x.cells = x.lit := rfl
theorem nd.fK (x : nd) : x.cells.all cc = true := rfl
instance : oZ nd.cells := ⟨nd.fK⟩
structure nf where
 fB : List UInt8
 fI : Int
 fH : Int
 deriving DecidableEq, Inhabited
abbrev nf.lit (x : nf) : List PV := [sl 1 cB x.fB, .int .i64 x.fI, .int .i64 x.fH]
def nf.cells (x : nf) : List PV := x.lit
theorem nf.au (x : nf) : x.cells = x.lit := rfl
theorem nf.fK (x : nf) : x.cells.all cc = true := rfl
instance : oZ nf.cells := ⟨nf.fK⟩
instance : Fl1 jt.cells := ⟨fun _ => rfl⟩
inductive ae.D : List PV → ae → Prop
 | mk (x : ae) (n0 : Nat) (F0 : Nat → Prop) (Bg : x.ah.length = n0) (f0 : Nat → List PV) (h0 : ∀ i (hi : i < x.ah.length), ae.D (f0 i) x.ah[i]) (hz0 : ∀ i, n0 ≤ i → f0 i = []) : ae.D [.int .i64 x.ai, .int .i64 x.aC, .str x.aj, .fJ 4 n0 29 f0 F0] x
theorem ae.aoD : ∀ cs x, ae.D cs x → CK cs x.cells := fun cs x h => ae.D.rec (motive := fun cs x _ => CK cs x.cells) (fun x n0 F0 Bg f0 h0 hz0 ih0 => by rw [ae.au]; exact ⟨.p rfl, .p rfl, .p rfl, .o (NX ih0 Bg 4 29 F0), trivial⟩) h
instance : Dcl ae.D ae.cells := ⟨ae.aoD⟩
theorem ae.acs : ∀ cs x, ae.D cs x → pS cs := fun cs x h => ae.D.rec (motive := fun cs x _ => pS cs) (fun x n0 F0 Bg f0 h0 hz0 ih0 => (aco (aco (aco (arM (fun i hi => ih0 i (Nat.lt_of_lt_of_eq hi Bg.symm)) arL))))) h
instance : Dfl ae.D := ⟨ae.acs⟩
def acu : lO := qF [(3, .int .i64),
 (4, .bool),
 (5, .int .u8),
 (9, .str),
 (22, .slice 24 4 56 [.int .i64 0, .int .i64 0, .str [], .bm]),
 (24, .struct 4 [(0, 1, false), (1, 1, false), (2, 1, false), (3, 1, false)] [.int .i64 0, .int .i64 0, .str [], .bm]),
 (27, .slice 29 4 56 [.int .i64 0, .int .i64 0, .str [], .bm]),
 (29, .struct 4 [(0, 1, false), (1, 1, false), (2, 1, false), (3, 1, false)] [.int .i64 0, .int .i64 0, .str [], .bm]),
 (39, .slice 5 1 1 [.int .u8 0]),
 (49, .struct 2 [(0, 1, false), (1, 1, false)] [.dA, .bm]),
 (51, .struct 2 [(0, 2, true)] [.dA, .bm]),
 (58, .slice 101 4 40 [.int .i64 0, .int .i64 0, .str [], .int .i64 0]),
 (62, .struct 4 [(0, 1, false), (1, 1, false), (2, 1, false), (3, 1, false)] [.bm, .int .i64 0, .int .i64 0, .int .i64 0]),
 (67, .struct 4 [(0, 1, false), (1, 1, false), (2, 1, false), (3, 1, false)] [.bm, .int .i64 0, .int .i64 0, .bool false]),
 (78, .slice 9 1 16 [.str []]),
 (88, .ptr 5),
 (101, .struct 4 [(0, 1, false), (1, 1, false), (2, 1, false), (3, 1, false)] [.int .i64 0, .int .i64 0, .str [], .int .i64 0]),
 (107, .struct 4 [(0, 1, false), (1, 1, false), (2, 1, false), (3, 1, false)] [.str [], .int .i64 0, .bm, .int .i64 0]),
 (117, .struct 3 [(0, 1, false), (1, 1, false), (2, 1, false)] [.bm, .int .i64 0, .int .i64 0]),
 (120, .slice 3 1 8 [.int .i64 0])]
theorem Rz : cn Tryz.prog acu := aoq avs
theorem mixed : Tryz.prog.follows .mixedOrders = true := by kernel_rfl
theorem gq {f : FuncId} {fn : Func} {c : Code} {args : List PV} {h : List ar} {R : PV → List ar → Prop} (hf : Tryz.prog.funcs[f]? = some fn) (hv : vc Tryz.prog acu h.length c (aoE acu fn.results.toList h.length R) (pT args) h) (hb : fn.body = some c := by rfl) (tb : (fn.name == "runtime.NumGoroutine") = false := by kernel_rfl) (hn : Nat.ble args.length fn.ntmps = true := by rfl) (va : codeOk fn.ntmps c = true := by kernel_rfl) : ACall Tryz.prog f args h R := ACall.aoF Rz mixed hf hb tb _ _ _ hn va hv
set_option maxRecDepth 100000
mutual
def jX (a0 : ae) (a1 : Int) : Option (Int) :=
 (if (aS (a1 - (a0.aj.length : Int))) < 0 then
 some (-1)
 else
 pE a0.ah (aS (a1 - (a0.aj.length : Int))) >>= fun v2 =>
 (if v2 < 0 then
 some (-1)
 else
 some v2))
partial_fixpoint
def pE (a0 : List ae) (a1 : Int) : Option (Int) :=
 (if (aS (a1 - (a0.length : Int))) < 0 then
 some (-1)
 else
 ((
 fG a0 (aS (a1 - (a0.length : Int))) 0
 : Option ((Int) ⊕ Int)) >>= fun o7 => match o7 with
 | .inr r => some r
 | .inl y6 =>
 some y6
 ))
partial_fixpoint
def fG (a0 : List ae) (fA : Int) (iG : Int) : Option ((Int) ⊕ Int) :=
 (if iG < (a0.length : Int) then
 idx a0 iG >>= fun om =>
 jX om fA >>= fun u6 =>
 (if u6 < 0 then
 some (.inr (-1))
 else
 fG a0 u6 (aS (iG + 1)))
 else
 some (.inl fA))
partial_fixpoint
end
def FV (a0 : ae) (a1 : Int) (r : Int) : Prop := ACall Tryz.prog 10 [.agg a0.lit, .int .i64 a1] [] (fun res h => res = .int .i64 r ∧ h = [])
def Wz (a0 : List ae) (a1 : Int) (r : Int) : Prop := ACall Tryz.prog 37 [sl 4 ae.cells a0, .int .i64 a1] [] (fun res h => res = .int .i64 r ∧ h = [])
inductive dR : (List ae) → Int → Int → ((Int) ⊕ Int) → Prop
 | mk (G10 : ae → Int → Option (Int)) (arO : ∀ a0 a1 r, G10 a0 a1 = some r → FV a0 a1 r) (ft : (List ae) → Int → Int → Option ((Int) ⊕ Int)) (tc : ∀ a0 fA iG o, ft a0 fA iG = some o → dR a0 fA iG o) (a0 : List ae) (fA : Int) (iG : Int) (o : (Int) ⊕ Int) (h : (
 (if iG < (a0.length : Int) then
 idx a0 iG >>= fun om =>
 G10 om fA >>= fun u6 =>
 (if u6 < 0 then
 some (.inr (-1))
 else
 ft a0 u6 (aS (iG + 1)))
 else
 some (.inl fA))
 ) = some o) : dR a0 fA iG o
theorem rA {motive : (List ae) → Int → Int → ((Int) ⊕ Int) → Prop} (step : ∀ (G10 : ae → Int → Option (Int)) (arO : ∀ a0 a1 r, G10 a0 a1 = some r → FV a0 a1 r) (ft : (List ae) → Int → Int → Option ((Int) ⊕ Int)) (tc : ∀ a0 fA iG o, ft a0 fA iG = some o → dR a0 fA iG o) (a0 : List ae) (fA : Int) (iG : Int) (o : (Int) ⊕ Int) (h : (
 (if iG < (a0.length : Int) then
 idx a0 iG >>= fun om =>
 G10 om fA >>= fun u6 =>
 (if u6 < 0 then
 some (.inr (-1))
 else
 ft a0 u6 (aS (iG + 1)))
 else
 some (.inl fA))
 ) = some o) (ih : ∀ a0 fA iG o, ft a0 fA iG = some o → motive a0 fA iG o), motive a0 fA iG o) : ∀ a0 fA iG o, dR a0 fA iG o → motive a0 fA iG o :=
 fun a0 fA iG o h => dR.rec (motive := fun a0 fA iG o _ => motive a0 fA iG o) step h
theorem yo : (∀ a0 a1 r, jX a0 a1 = some r → FV a0 a1 r) ∧ (∀ a0 a1 r, pE a0 a1 = some r → Wz a0 a1 r) ∧ (∀ a0 fA iG o, fG a0 fA iG = some o → dR a0 fA iG o) := by
 refine jX.mutual_partial_correctness FV Wz dR ?_ ?_ ?_
 intro _ aoG a0 a1 r h
 refine gq Tryz.func10 ?_
 refine .d (.d ⟨rfl, ⟨rfl, _, rfl, (.d (.d (sD h (fun kS h => ?_) (fun kS h => ?_))))⟩⟩)
 exact auM
 refine .d ⟨rfl, ⟨rfl, _, rfl, (bk h fun v2 I7 h => (aR (aoG _ _ _ I7) (.d (.d (sD h (fun Bb h => ?_) (fun Bb h => ?_))))))⟩⟩
 exact auM
 exact auM
 intro _ acv a0 a1 r h
 refine gq Tryz.func37 ?_
 refine .d (.d (.d (.d (sD h (fun Bc h => ?_) (fun Bc h => ?_)))))
 exact auM
 obtain ⟨o7, XJ, zR⟩ := bd h
 replace h := XJ
 refine .cut (fun σ η => ∃ y6, .inl y6 = o7 ∧ σ = [(1, .int .i64 y6)] ∧ η = []) ?_ ?_
 refine .d ?_
 have acw := acv _ _ _ _ h
 refine le (rA (motive := fun p24 fA iG OS => a0 = p24 → o7 = OS → aG _ _ [(0, sl 4 ae.cells a0), (1, .int .i64 fA), (5, .int .i64 iG)] []) ?_ a0 (aS (a1 - (a0.length : Int))) 0 o7 acw rfl rfl) (tk [] ⟨.l, .i, .i, ⟨⟩⟩ ⟨⟩)
 intro _ NZ _ _ p24 fA iG OS h Eo  Ep Lh
 subst Ep
 subst Lh
 refine aG.round (.d (.d (sD h (fun oN h => ?_) (fun oN h => ?_))))
 refine .d (.d (bk h fun om qy h => ⟨aA qy, _, (ax qy).trans (ae.au om), (bk h fun u6 zT h => (aR (NZ _ _ _ zT) (.d (sD h (fun qs h => ?_) (fun qs h => ?_)))))⟩))
 refine .d ?_
 obtain rfl := si h
 replace h := zR
 exact eI h
 exact lg (Eo _ _ _ _ h rfl rfl) (tk [] ⟨.l, .i, .i, ⟨⟩⟩ ⟨⟩)
 exact auT
 rintro _ _ ⟨y6, rfl, rfl, rfl⟩
 replace h := zR
 exact auM
 intro F0 F1 lQ lR a0 fA iG o h
 exact .mk F0 lQ F1 lR a0 fA iG o h
theorem B7 {a0 : ae} {a1 : Int} {r : Int} (h : jX a0 a1 = some r) : ACall Tryz.prog 10 [.agg a0.lit, .int .i64 a1] [] (fun res h => res = .int .i64 r ∧ h = []) := yo.1 a0 a1 r h
mutual
def ib (a0 : ae) : Option (ae) :=
 pA a0.ah >>= fun v1 =>
 some (ae.mk a0.ai a0.aC a0.aj v1)
partial_fixpoint
def pA (a0 : List ae) : Option ((List ae)) :=
 (yU 56 (a0.length : Int) (a0.length : Int) : Option (List ae)) >>= fun l3 =>
 (
 gT a0 l3 0
 : Option ((List ae))) >>= fun l5 =>
 some l5
partial_fixpoint
def gT (a0 : List ae) (l9 : List ae) (fA : Int) : Option ((List ae)) :=
 (if fA < (a0.length : Int) then
 idx a0 fA >>= fun tf =>
 ib tf >>= fun KG =>
 idx l9 fA >>= fun Su =>
 gT a0 (l9.set fA.toNat KG) (aS (fA + 1))
 else
 some l9)
partial_fixpoint
end
def FW (a0 : ae) (r : ae) : Prop := ACall Tryz.prog 12 [.agg a0.lit] [] (fun res h => res = .agg r.lit ∧ h = [])
def WA (a0 : List ae) (r : (List ae)) : Prop := ACall Tryz.prog 40 [sl 4 ae.cells a0] [] (fun res h => res = sl 4 ae.cells r ∧ h = [])
inductive dS : (List ae) → (List ae) → Int → ((List ae)) → Prop
 | mk (G12 : ae → Option (ae)) (arP : ∀ a0 r, G12 a0 = some r → FW a0 r) (fu : (List ae) → (List ae) → Int → Option ((List ae))) (tg : ∀ a0 l9 fA o, fu a0 l9 fA = some o → dS a0 l9 fA o) (a0 : List ae) (l9 : List ae) (fA : Int) (o : (List ae)) (h : (
 (if fA < (a0.length : Int) then
 idx a0 fA >>= fun tf =>
 G12 tf >>= fun KG =>
 idx l9 fA >>= fun Su =>
 fu a0 (l9.set fA.toNat KG) (aS (fA + 1))
 else
 some l9)
 ) = some o) : dS a0 l9 fA o
theorem rB {motive : (List ae) → (List ae) → Int → ((List ae)) → Prop} (step : ∀ (G12 : ae → Option (ae)) (arP : ∀ a0 r, G12 a0 = some r → FW a0 r) (fu : (List ae) → (List ae) → Int → Option ((List ae))) (tg : ∀ a0 l9 fA o, fu a0 l9 fA = some o → dS a0 l9 fA o) (a0 : List ae) (l9 : List ae) (fA : Int) (o : (List ae)) (h : (
 (if fA < (a0.length : Int) then
 idx a0 fA >>= fun tf =>
 G12 tf >>= fun KG =>
 idx l9 fA >>= fun Su =>
 fu a0 (l9.set fA.toNat KG) (aS (fA + 1))
 else
 some l9)
 ) = some o) (ih : ∀ a0 l9 fA o, fu a0 l9 fA = some o → motive a0 l9 fA o), motive a0 l9 fA o) : ∀ a0 l9 fA o, dS a0 l9 fA o → motive a0 l9 fA o :=
 fun a0 l9 fA o h => dS.rec (motive := fun a0 l9 fA o _ => motive a0 l9 fA o) step h
theorem yp : (∀ a0 r, ib a0 = some r → FW a0 r) ∧ (∀ a0 r, pA a0 = some r → WA a0 r) ∧ (∀ a0 l9 fA o, gT a0 l9 fA = some o → dS a0 l9 fA o) := by
 refine ib.mutual_partial_correctness FW WA dS ?_ ?_ ?_
 intro _ aoH a0 r h
 refine gq Tryz.func12 ?_
 refine .d (.d (.d ⟨rfl, ⟨rfl, _, rfl, ⟨rfl, ⟨rfl, _, fun _ => [.int .i64 a0.ai, .int .i64 0, .str [], .bm], rfl, bI rfl, (.d ⟨rfl, ⟨rfl, _, rfl, ⟨rfl, ⟨rfl, _, fun _ => [.int .i64 a0.ai, .int .i64 a0.aC, .str [], .bm], rfl, bI rfl, (.d ⟨rfl, ⟨rfl, _, rfl, ?_⟩⟩)⟩⟩⟩⟩)⟩⟩⟩⟩))
 refine ⟨rfl, ⟨rfl, _, fun _ => [.int .i64 a0.ai, .int .i64 a0.aC, .str a0.aj, .bm], rfl, bI rfl, (.d ⟨rfl, ⟨rfl, _, rfl, (bk h fun v1 mq h => (aR (aoH _ _ mq) ⟨rfl, ⟨rfl, _, fun _ => [.int .i64 a0.ai, .int .i64 a0.aC, .str a0.aj, sl 4 ae.cells v1], rfl, bI rfl, (.d ⟨rfl, _, rfl, ⟨rfl, _, fun _ => [.int .i64 a0.ai, .int .i64 a0.aC, .str a0.aj, sl 4 ae.cells v1], rfl, bI rfl, ?_⟩⟩)⟩⟩))⟩⟩)⟩⟩
 obtain rfl := si h
 exact ⟨rfl, _, rfl, (en [] ⟨rfl, rfl⟩ (.aos ⟨.i, .i, .s, .l, ⟨⟩⟩) ⟨⟩)⟩
 intro _ acv a0 r h
 refine gq Tryz.func40 ?_
 refine .d (.d (bk h fun l3 hx4 h => ⟨NT hx4, l3.length, row ae.cells l3, ze hx4, Ib hx4 (ae.au default) ⟨.same _, .same _, .same _, .nil _ _, trivial⟩, ?_⟩))
 obtain ⟨o6, ho7, uB⟩ := bd h
 replace h := ho7
 refine .cut (fun σ η => ∃ l5, l5 = o6 ∧ σ = [(3, .own 0 0 0 l5.length)] ∧ η = [.row 0 4 l5.length 29 (row ae.cells l5)]) ?_ ?_
 refine .d ?_
 have acw := acv _ _ _ _ h
 refine le (rB (motive := fun p24 l9 fA OS => a0 = p24 → o6 = OS → aG _ _ [(0, sl 4 ae.cells a0), (3, .own 0 0 0 l9.length), (4, .int .i64 fA)] [.row 0 4 l9.length 29 (row ae.cells l9)]) ?_ a0 l3 0 o6 acw rfl rfl) (tk [0] ⟨.l, .o, .i, ⟨⟩⟩ ⟨nw, ⟨⟩⟩)
 intro _ arQ _ _ p24 l9 fA OS h zS  Ep Lh
 subst Ep
 subst Lh
 refine aG.round (.d (.d (sD h (fun lI h => ?_) (fun lI h => ?_))))
 exact .d (bk h fun tf CN h => ⟨aA CN, _, (ax CN).trans (ae.au tf), (bk h fun KG aav h => (aR (arQ _ _ aav) (bk h fun Su Gl h => ⟨rfl, aA Gl, _, asN _, ⟨rfl, _, row ae.cells (l9.set fA.toNat KG), ((ax Gl).trans (ae.au Su)), Rt (NS Gl) (ae.au KG) ⟨.same _, .same _, .same _, .same _, trivial⟩, (lg (zS _ _ _ _ h rfl rfl) (tk [0] ⟨.l, (.ox ln), .i, ⟨⟩⟩ ⟨(nwx rfl ln), ⟨⟩⟩))⟩⟩)))⟩)
 exact avc
 rintro _ _ ⟨l5, rfl, rfl, rfl⟩
 replace h := uB
 refine .d ?_
 obtain rfl := si h
 exact en [] ⟨rfl, rfl⟩ .r ⟨⟩
 intro F0 F1 lQ lR a0 l9 fA o h
 exact .mk F0 lQ F1 lR a0 l9 fA o h
theorem pk {a0 : ae} {r : ae} (h : ib a0 = some r) : ACall Tryz.prog 12 [.agg a0.lit] [] (fun res h => res = .agg r.lit ∧ h = []) := yp.1 a0 r h
mutual
def jY (a0 : ae) (a1 : ae) : Option (Bool) :=
 (if a0.ai = a1.ai then
 (if a0.aC = a1.aC then
 (if a0.aj = a1.aj then
 pB a0.ah a1.ah >>= fun v4 =>
 (if v4 = true then
 some true
 else
 some false)
 else
 some false)
 else
 some false)
 else
 some false)
partial_fixpoint
def pB (a0 : List ae) (a1 : List ae) : Option (Bool) :=
 (if (a0.length : Int) = (a1.length : Int) then
 ((
 gU a0 a1 0
 : Option ((Unit) ⊕ Bool)) >>= fun o8 => match o8 with
 | .inr r => some r
 | .inl _ =>
 some true
 )
 else
 some false)
partial_fixpoint
def gU (a0 : List ae) (a1 : List ae) (iG : Int) : Option ((Unit) ⊕ Bool) :=
 (if iG < (a0.length : Int) then
 idx a0 iG >>= fun om =>
 idx a1 iG >>= fun CG =>
 jY om CG >>= fun v21 =>
 (if v21 = true then
 gU a0 a1 (aS (iG + 1))
 else
 some (.inr false))
 else
 some (.inl ()))
partial_fixpoint
end
def FX (a0 : ae) (a1 : ae) (r : Bool) : Prop := ACall Tryz.prog 14 [.agg a0.lit, .agg a1.lit] [] (fun res h => res = .bool r ∧ h = [])
def WB (a0 : List ae) (a1 : List ae) (r : Bool) : Prop := ACall Tryz.prog 44 [sl 4 ae.cells a0, sl 4 ae.cells a1] [] (fun res h => res = .bool r ∧ h = [])
inductive dT : (List ae) → (List ae) → Int → ((Unit) ⊕ Bool) → Prop
 | mk (G14 : ae → ae → Option (Bool)) (NZ : ∀ a0 a1 r, G14 a0 a1 = some r → FX a0 a1 r) (fv : (List ae) → (List ae) → Int → Option ((Unit) ⊕ Bool)) (th : ∀ a0 a1 iG o, fv a0 a1 iG = some o → dT a0 a1 iG o) (a0 : List ae) (a1 : List ae) (iG : Int) (o : (Unit) ⊕ Bool) (h : (
 (if iG < (a0.length : Int) then
 idx a0 iG >>= fun om =>
 idx a1 iG >>= fun CG =>
 G14 om CG >>= fun v21 =>
 (if v21 = true then
 fv a0 a1 (aS (iG + 1))
 else
 some (.inr false))
 else
 some (.inl ()))
 ) = some o) : dT a0 a1 iG o
theorem rC {motive : (List ae) → (List ae) → Int → ((Unit) ⊕ Bool) → Prop} (step : ∀ (G14 : ae → ae → Option (Bool)) (NZ : ∀ a0 a1 r, G14 a0 a1 = some r → FX a0 a1 r) (fv : (List ae) → (List ae) → Int → Option ((Unit) ⊕ Bool)) (th : ∀ a0 a1 iG o, fv a0 a1 iG = some o → dT a0 a1 iG o) (a0 : List ae) (a1 : List ae) (iG : Int) (o : (Unit) ⊕ Bool) (h : (
 (if iG < (a0.length : Int) then
 idx a0 iG >>= fun om =>
 idx a1 iG >>= fun CG =>
 G14 om CG >>= fun v21 =>
 (if v21 = true then
 fv a0 a1 (aS (iG + 1))
 else
 some (.inr false))
 else
 some (.inl ()))
 ) = some o) (ih : ∀ a0 a1 iG o, fv a0 a1 iG = some o → motive a0 a1 iG o), motive a0 a1 iG o) : ∀ a0 a1 iG o, dT a0 a1 iG o → motive a0 a1 iG o :=
 fun a0 a1 iG o h => dT.rec (motive := fun a0 a1 iG o _ => motive a0 a1 iG o) step h
theorem yq : (∀ a0 a1 r, jY a0 a1 = some r → FX a0 a1 r) ∧ (∀ a0 a1 r, pB a0 a1 = some r → WB a0 a1 r) ∧ (∀ a0 a1 iG o, gU a0 a1 iG = some o → dT a0 a1 iG o) := by
 refine jY.mutual_partial_correctness FX WB dT ?_ ?_ ?_
 intro _ aoI a0 a1 r h
 refine gq Tryz.func14 ?_
 refine .d (.d (.d ⟨rfl, ⟨rfl, _, rfl, ⟨rfl, ⟨rfl, _, rfl, (sN h (fun kS h => ?_) (fun kS h => ?_))⟩⟩⟩⟩))
 exact auL
 refine .d (.d ⟨rfl, ⟨rfl, _, rfl, ⟨rfl, ⟨rfl, _, rfl, (sN h (fun np h => ?_) (fun np h => ?_))⟩⟩⟩⟩)
 exact auL
 refine .d (.d ⟨rfl, ⟨rfl, _, rfl, ⟨rfl, ⟨rfl, _, rfl, (Pd h (fun oV h => ?_) (fun oV h => ?_))⟩⟩⟩⟩)
 exact auL
 refine .d (.d ⟨rfl, ⟨rfl, _, rfl, ⟨rfl, ⟨rfl, _, rfl, (bk h fun v4 vW h => (aR (aoI _ _ _ vW) (jV h (fun vA h => ?_) (fun vA h => ?_))))⟩⟩⟩⟩)
 exact auL
 exact auL
 intro _ arR a0 a1 r h
 refine gq Tryz.func44 ?_
 refine .d (.d (.d (sN h (fun C9 h => ?_) (fun C9 h => ?_))))
 exact auL
 obtain ⟨o8, ho9, aoJ⟩ := bd h
 replace h := ho9
 refine .cut (fun σ η => .inl () = o8 ∧ σ = [] ∧ η = []) ?_ ?_
 refine .d ?_
 have arS := arR _ _ _ _ h
 refine le (rC (motive := fun p26 p27 iG o24 => a0 = p26 → a1 = p27 → o8 = o24 → aG _ _ [(0, sl 4 ae.cells a0), (1, sl 4 ae.cells a1), (5, .int .i64 iG)] []) ?_ a0 a1 0 o8 arS rfl rfl rfl) (tk [] ⟨.l, .l, .i, ⟨⟩⟩ ⟨⟩)
 intro _ NZ _ _ p26 p27 iG o24 h Eo  acx acy arT
 subst acx
 subst acy
 subst arT
 refine aG.round (.d (.d (sD h (fun oN h => ?_) (fun oN h => ?_))))
 refine .d (.d (.float [(0, true), (1, true), (2, true), (3, true), (4, true), (5, true), (6, true), (7, true), (8, false), (9, true)] avs ?_))
 refine bk h fun om qy h => ⟨aA qy, _, (ax qy).trans (ae.au om), (bk h fun CG s9 h => ⟨aA s9, _, (ax s9).trans (ae.au CG), (bk h fun v21 Nq h => (aR (NZ _ _ _ Nq) (jV h (fun xU h => ?_) (fun xU h => ?_))))⟩)⟩
 refine .d ?_
 obtain rfl := si h
 replace h := aoJ
 exact eB h
 exact lg (Eo _ _ _ _ h rfl rfl rfl) (tk [] ⟨.l, .l, .i, ⟨⟩⟩ ⟨⟩)
 exact auK
 rintro _ _ ⟨rfl, rfl, rfl⟩
 replace h := aoJ
 exact auL
 intro F0 F1 lQ lR a0 a1 iG o h
 exact .mk F0 lQ F1 lR a0 a1 iG o h
theorem B8 {a0 : ae} {a1 : ae} {r : Bool} (h : jY a0 a1 = some r) : ACall Tryz.prog 14 [.agg a0.lit, .agg a1.lit] [] (fun res h => res = .bool r ∧ h = []) := yq.1 a0 a1 r h
def tA (a0 : Int) (a1 : Int) (a2 : Int) : Option (Bool) :=
 (if a0 ≥ a1 then
 some (decide (a0 ≤ a2))
 else
 some false)
theorem ns {a0 : Int} {a1 : Int} {a2 : Int} {r : Bool} (h : tA a0 a1 a2 = some r) : ACall Tryz.prog 146 [.int .i64 a0, .int .i64 a1, .int .i64 a2] [] (fun res h => res = .bool r ∧ h = []) := by
 refine gq Tryz.func146 ?_
 unfold tA at h
 refine .d (.d (sD h (fun kS h => ?_) (fun kS h => ?_)))
 exact .t (.t (.t (eB h)))
 exact auY
def BU (a0 : Int) (a1 : Int) (a2 : Int) : Option (Bool) :=
 (if a1 ≤ a0 then
 some (decide (a0 ≤ a2))
 else
 some false)
theorem x6 {a0 : Int} {a1 : Int} {a2 : Int} {r : Bool} (h : BU a0 a1 a2 = some r) : ACall Tryz.prog 135 [.int .i64 a0, .int .i64 a1, .int .i64 a2] [] (fun res h => res = .bool r ∧ h = []) := by
 refine gq Tryz.func135 ?_
 unfold BU at h
 refine .d (.d (sD h (fun kS h => ?_) (fun kS h => ?_)))
 exact .t (.t (.t (eB h)))
 exact auY
def ky (a0 : Int) : Option (Bool) :=
 (if a0 ≥ 65 then
 (if a0 ≤ 90 then
 some true
 else
 (if a0 ≥ 97 then
 some (decide (a0 ≤ 122))
 else
 some false))
 else
 (if a0 ≥ 97 then
 some (decide (a0 ≤ 122))
 else
 some false))
theorem yr {a0 : Int} {r : Bool} (h : ky a0 = some r) : ACall Tryz.prog 206 [.int .u8 a0] [] (fun res h => res = .bool r ∧ h = []) := by
 refine gq Tryz.func206 ?_
 unfold ky at h
 refine .d (.d (sD h (fun kS h => ?_) (fun kS h => ?_)))
 refine .t (.t (sD h (fun np h => ?_) (fun np h => ?_)))
 exact .t (.t (.t (.t (eB h))))
 refine .f (.f (sD h (fun oV h => ?_) (fun oV h => ?_)))
 exact .t (.f (.t (.f (eB h))))
 exact .f (.f (.f (.f (eB h))))
 refine .f (.f (.f (.f (.f (sD h (fun Bb h => ?_) (fun Bb h => ?_))))))
 exact .t (.f (.t (.f (eB h))))
 exact .f (.f (.f (.f (eB h))))
def lb (a0 : Int) : Option (Bool) :=
 (if a0 ≥ 48 then
 some (decide (a0 ≤ 57))
 else
 some false)
theorem AU {a0 : Int} {r : Bool} (h : lb a0 = some r) : ACall Tryz.prog 172 [.int .u8 a0] [] (fun res h => res = .bool r ∧ h = []) := by
 refine gq Tryz.func172 ?_
 unfold lb at h
 refine .d (.d (sD h (fun kS h => ?_) (fun kS h => ?_)))
 exact .t (.t (eB h))
 exact .f (.f (eB h))
def jM (a0 : Int) : Option (Bool) :=
 tA (aS (a0)) 97 122 >>= fun v1 =>
 (if v1 = true then
 some true
 else
 tA (aS (a0)) 65 90 >>= fun v4 =>
 (if v4 = true then
 some true
 else
 some (a0 == 95)))
theorem xk {a0 : Int} {r : Bool} (h : jM a0 = some r) : ACall Tryz.prog 161 [.int .u8 a0] [] (fun res h => res = .bool r ∧ h = []) := by
 refine gq Tryz.func161 ?_
 unfold jM at h
 refine .d (.d (bk h fun v1 mq h => (aR (ns mq) (sV h (fun oV h => ?_) (fun oV h => ?_)))))
 exact .t (.t (.t (.t (.t (.t (eB h))))))
 refine .f (.f (bk h fun v4 vW h => (aR (ns vW) (.f (sV h (fun vA h => ?_) (fun vA h => ?_))))))
 exact .t (.t (eB h))
 exact .f (.f (eB h))
def kA (a0 : Int) : Option (Bool) :=
 tA (aS (a0)) 48 57 >>= fun v1 =>
 some v1
theorem yt {a0 : Int} {r : Bool} (h : kA a0 = some r) : ACall Tryz.prog 162 [.int .u8 a0] [] (fun res h => res = .bool r ∧ h = []) := by
 refine gq Tryz.func162 ?_
 unfold kA at h
 exact .d (.d (bk h fun v1 mq h => (aR (ns mq) (eB h))))
def cE (a0 : aq) (y5 : Int) : Option (Int) :=
 (if y5 < (a0.length : Int) then
 n9 a0 y5 >>= fun c9 =>
 ky (c9.toNat : Int) >>= fun v11 =>
 (if v11 = true then
 cE a0 (aS (y5 + 1))
 else
 n9 a0 y5 >>= fun c14 =>
 (if (c14.toNat : Int) = 95 then
 cE a0 (aS (y5 + 1))
 else
 (if y5 > 0 then
 n9 a0 y5 >>= fun c18 =>
 lb (c18.toNat : Int) >>= fun v20 =>
 (if v20 = true then
 cE a0 (aS (y5 + 1))
 else
 some y5)
 else
 some y5)))
 else
 some y5)
partial_fixpoint
def gP (a0 : aq) : Option (Int) :=
 (
 cE a0 0
 : Option (Int)) >>= fun y1 =>
 some y1
theorem vo {a0 : aq} {r : Int} (h : gP a0 = some r) : ACall Tryz.prog 171 [.str a0] [] (fun res h => res = .int .i64 r ∧ h = []) := by
 refine gq Tryz.func171 ?_
 unfold gP at h
 refine .d (.d ?_)
 obtain ⟨o2, vL, vM⟩ := bd h
 replace h := vL
 refine .cut (fun σ η => ∃ y1, y1 = o2 ∧ σ = [(3, .int .i64 y1)] ∧ η = []) ?_ ?_
 refine le (cE.partial_correctness a0 (motive := fun y5 o23 => o2 = o23 → aG _ _ [(0, .str a0), (3, .int .i64 y5)] []) ?_ 0 o2 h rfl) (tk [] ⟨.s, .i, ⟨⟩⟩ ⟨⟩)
 intro F7 St y5 o23 h arU
 subst arU
 refine aG.round (.d (.d (sD h (fun Be h => ?_) (fun Be h => ?_))))
 refine .t (.t (bk h fun c9 Bz h => ⟨ig Bz, c9, ij Bz, (.t (bk h fun v11 D1 h => (aR (yr D1) (.t (sV h (fun rW h => ?_) (fun rW h => ?_))))))⟩))
 exact .t (.t (.t (.t (.t (.t (.t (.t (.t (.t (.t (.t (.t (.t (lg (St _ _ h rfl) (tk [] ⟨.s, .i, ⟨⟩⟩ ⟨⟩)))))))))))))))
 refine .f (.f (bk h fun c14 wj h => ⟨ig wj, c14, ij wj, (.f (.t (.f (.t (sE h (fun oN h => ?_) (fun oN h => ?_))))))⟩))
 exact .t (.t (.t (.t (.t (.t (.t (lg (St _ _ h rfl) (tk [] ⟨.s, .i, ⟨⟩⟩ ⟨⟩))))))))
 refine .f (.f (sD h (fun rX h => ?_) (fun rX h => ?_)))
 refine .t (.t (bk h fun c18 JZ h => ⟨ig JZ, c18, ij JZ, (.t (bk h fun v20 arV h => (aR (AU arV) (.f (.t (.t (.f (.t (sV h (fun u5 h => ?_) (fun u5 h => ?_))))))))))⟩))
 exact lg (St _ _ h rfl) (tk [] ⟨.s, .i, ⟨⟩⟩ ⟨⟩)
 exact auT
 exact .f (.f (.f (.f (.f (.t (.f (.t (.f (ct ⟨_, si h, rfl, rfl⟩ (tk [] ⟨.i, ⟨⟩⟩ ⟨⟩))))))))))
 exact .f (.f (.f (.f (.f (.f (.f (.f (.f (ct ⟨_, si h, rfl, rfl⟩ (tk [] ⟨.i, ⟨⟩⟩ ⟨⟩))))))))))
 exact auz
def kW (a0 : aq) : Option (Bool) :=
 (if (a0.length : Int) ≤ 20 then
 gP a0 >>= fun v2 =>
 (if v2 = (a0.length : Int) then
 some (!(a0 == ([] : aq)))
 else
 some false)
 else
 some false)
theorem CO {a0 : aq} {r : Bool} (h : kW a0 = some r) : ACall Tryz.prog 196 [.str a0] [] (fun res h => res = .bool r ∧ h = []) := by
 refine gq Tryz.func196 ?_
 unfold kW at h
 refine .d (.d (sD h (fun kS h => ?_) (fun kS h => ?_)))
 refine .t (bk h fun v2 I7 h => (aR (vo I7) (.t (.t (.t (.t (sE h (fun Bb h => ?_) (fun Bb h => ?_))))))))
 exact .t (.t (eB h))
 exact .f (.f (eB h))
 exact avf
def jl (a0 : aq) : Option (Bool) :=
 (if a0 = ([101, 99, 104, 111] : aq) then
 some true
 else
 (if a0 = ([105, 102] : aq) then
 some true
 else
 (if a0 = ([101, 108, 115, 101] : aq) then
 some true
 else
 (if a0 = ([119, 104, 105, 108, 101] : aq) then
 some true
 else
 (if a0 = ([102, 111, 114, 101, 97, 99, 104] : aq) then
 some true
 else
 (if a0 = ([97, 115] : aq) then
 some true
 else
 (if a0 = ([98, 114, 101, 97, 107] : aq) then
 some true
 else
 (if a0 = ([99, 111, 110, 116, 105, 110, 117, 101] : aq) then
 some true
 else
 (if a0 = ([114, 101, 116, 117, 114, 110] : aq) then
 some true
 else
 (if a0 = ([103, 108, 111, 98, 97, 108] : aq) then
 some true
 else
 (if a0 = ([117, 110, 115, 101, 116] : aq) then
 some true
 else
 (if a0 = ([116, 104, 114, 111, 119] : aq) then
 some true
 else
 (if a0 = ([116, 114, 121] : aq) then
 some true
 else
 (if a0 = ([99, 97, 116, 99, 104] : aq) then
 some true
 else
 (if a0 = ([102, 105, 110, 97, 108, 108, 121] : aq) then
 some true
 else
 (if a0 = ([121, 105, 101, 108, 100] : aq) then
 some true
 else
 (if a0 = ([105, 110, 99, 108, 117, 100, 101] : aq) then
 some true
 else
 (if a0 = ([102, 117, 110, 99, 116, 105, 111, 110] : aq) then
 some true
 else
 (if a0 = ([99, 108, 97, 115, 115] : aq) then
 some true
 else
 (if a0 = ([116, 114, 97, 105, 116] : aq) then
 some true
 else
 (if a0 = ([101, 120, 116, 101, 110, 100, 115] : aq) then
 some true
 else
 (if a0 = ([117, 115, 101] : aq) then
 some true
 else
 (if a0 = ([112, 114, 105, 118, 97, 116, 101] : aq) then
 some true
 else
 (if a0 = ([115, 116, 97, 116, 105, 99] : aq) then
 some true
 else
 (if a0 = ([110, 101, 119] : aq) then
 some true
 else
 (if a0 = ([116, 114, 117, 101] : aq) then
 some true
 else
 (if a0 = ([102, 97, 108, 115, 101] : aq) then
 some true
 else
 (if a0 = ([110, 117, 108, 108] : aq) then
 some true
 else
 some false))))))))))))))))))))))))))))
theorem vq {a0 : aq} {r : Bool} (h : jl a0 = some r) : ACall Tryz.prog 197 [.str a0] [] (fun res h => res = .bool r ∧ h = []) := by
 refine gq Tryz.func197 ?_
 unfold jl at h
 refine .d (.d (.d (.d (.d (sE h (fun kS h => ?_) (fun kS h => ?_))))))
 exact .kt kS (.d (eB h))
 refine .d (sE h (fun np h => ?_) (fun np h => ?_))
 exact .kt np (.d (eB h))
 refine .d (sE h (fun oV h => ?_) (fun oV h => ?_))
 exact .kt oV (.d (eB h))
 refine .d (sE h (fun Bb h => ?_) (fun Bb h => ?_))
 exact .kt Bb (.d (eB h))
 refine .d (sE h (fun Bc h => ?_) (fun Bc h => ?_))
 exact .kt Bc (.d (eB h))
 refine .d (sE h (fun vA h => ?_) (fun vA h => ?_))
 exact .kt vA (.d (eB h))
 refine .d (sE h (fun C9 h => ?_) (fun C9 h => ?_))
 exact .kt C9 (.d (eB h))
 refine .d (sE h (fun Be h => ?_) (fun Be h => ?_))
 exact .kt Be (.d (eB h))
 refine .d (sE h (fun C8 h => ?_) (fun C8 h => ?_))
 exact .kt C8 (.d (eB h))
 refine .d (sE h (fun mo h => ?_) (fun mo h => ?_))
 exact .kt mo (.d (eB h))
 refine .d (sE h (fun rS h => ?_) (fun rS h => ?_))
 exact .kt rS (.d (eB h))
 refine .d (sE h (fun oO h => ?_) (fun oO h => ?_))
 exact .kt oO (.d (eB h))
 refine .d (sE h (fun rW h => ?_) (fun rW h => ?_))
 exact .kt rW (.d (eB h))
 refine .d (sE h (fun uY h => ?_) (fun uY h => ?_))
 exact .kt uY (.d (eB h))
 refine .d (sE h (fun lI h => ?_) (fun lI h => ?_))
 exact .kt lI (.d (eB h))
 refine .d (sE h (fun oN h => ?_) (fun oN h => ?_))
 exact .kt oN (.d (eB h))
 refine .d (sE h (fun rX h => ?_) (fun rX h => ?_))
 exact .kt rX (.d (eB h))
 refine .d (sE h (fun sf h => ?_) (fun sf h => ?_))
 exact .kt sf (.d (eB h))
 refine .d (sE h (fun we h => ?_) (fun we h => ?_))
 exact .kt we (.d (eB h))
 refine .d (sE h (fun uZ h => ?_) (fun uZ h => ?_))
 exact .kt uZ (.d (eB h))
 refine .d (sE h (fun qs h => ?_) (fun qs h => ?_))
 exact .kt qs (.d (eB h))
 refine .d (sE h (fun u5 h => ?_) (fun u5 h => ?_))
 exact .kt u5 (.d (eB h))
 refine .d (sE h (fun xU h => ?_) (fun xU h => ?_))
 exact .kt xU (.d (eB h))
 refine .d (sE h (fun BA h => ?_) (fun BA h => ?_))
 exact .kt BA (.d (eB h))
 refine .d (sE h (fun GY h => ?_) (fun GY h => ?_))
 exact .kt GY (.d (eB h))
 refine .d (sE h (fun Pj h => ?_) (fun Pj h => ?_))
 exact .kt Pj (.d (eB h))
 refine .d (sE h (fun Dp h => ?_) (fun Dp h => ?_))
 exact .kt Dp (.d (eB h))
 refine sE h (fun JX h => ?_) (fun JX h => ?_)
 exact auL
 exact auL
def aX (a0 : aq) : Option (Bool) :=
 kW a0 >>= fun v1 =>
 (if v1 = true then
 jl a0 >>= fun v4 =>
 some (!v4)
 else
 some false)
theorem bQ {a0 : aq} {r : Bool} (h : aX a0 = some r) : ACall Tryz.prog 133 [.str a0] [] (fun res h => res = .bool r ∧ h = []) := by
 refine gq Tryz.func133 ?_
 unfold aX at h
 refine .d (.d (bk h fun v1 mq h => (aR (CO mq) (sV h (fun oV h => ?_) (fun oV h => ?_)))))
 exact .t (bk h fun v4 vW h => (aR (vq vW) (.t (.t (eB h)))))
 exact auY
def gO (a0 : aq) (a1 : Int) (y5 : Int) : Option (Int) :=
 (if y5 < (a0.length : Int) then
 n9 a0 y5 >>= fun c9 =>
 jM (c9.toNat : Int) >>= fun v11 =>
 (if v11 = true then
 gO a0 a1 (aS (y5 + 1))
 else
 (if y5 > a1 then
 n9 a0 y5 >>= fun CP =>
 kA (CP.toNat : Int) >>= fun XI =>
 (if XI = true then
 gO a0 a1 (aS (y5 + 1))
 else
 some y5)
 else
 some y5))
 else
 some y5)
partial_fixpoint
def ld (a0 : aq) (a1 : Int) : Option (Int) :=
 (
 gO a0 a1 a1
 : Option (Int)) >>= fun y1 =>
 some y1
theorem AV {a0 : aq} {a1 : Int} {r : Int} (h : ld a0 a1 = some r) : ACall Tryz.prog 160 [.str a0, .int .i64 a1] [] (fun res h => res = .int .i64 r ∧ h = []) := by
 refine gq Tryz.func160 ?_
 unfold ld at h
 refine .d (.d ?_)
 obtain ⟨o2, vL, vM⟩ := bd h
 replace h := vL
 refine .cut (fun σ η => ∃ y1, y1 = o2 ∧ σ = [(5, .int .i64 y1)] ∧ η = []) ?_ ?_
 refine le (gO.partial_correctness a0 a1 (motive := fun y5 o20 => o2 = o20 → aG _ _ [(0, .str a0), (1, .int .i64 a1), (5, .int .i64 y5)] []) ?_ a1 o2 h rfl) (tk [] ⟨.s, .i, .i, ⟨⟩⟩ ⟨⟩)
 intro F7 St y5 o20 h arW
 subst arW
 refine aG.round (.d (.d (sD h (fun Be h => ?_) (fun Be h => ?_))))
 refine .t (.t (bk h fun c9 Bz h => ⟨ig Bz, c9, ij Bz, (.t (bk h fun v11 D1 h => (aR (xk D1) (.t (sV h (fun rW h => ?_) (fun rW h => ?_))))))⟩))
 exact .t (.t (.t (.t (.t (.t (.t (.t (lg (St _ _ h rfl) (tk [] ⟨.s, .i, .i, ⟨⟩⟩ ⟨⟩)))))))))
 refine .f (.f (.f (sD h (fun uY h => ?_) (fun uY h => ?_))))
 refine .t (.t (bk h fun CP CQ h => ⟨ig CQ, CP, ij CQ, (.t (bk h fun XI XK h => (aR (yt XK) (.f (.t (.t (.f (.t (sV h (fun we h => ?_) (fun we h => ?_))))))))))⟩))
 exact lg (St _ _ h rfl) (tk [] ⟨.s, .i, .i, ⟨⟩⟩ ⟨⟩)
 exact auT
 exact .f (.f (.f (.f (.f (.t (.f (.t (.f (ct ⟨_, si h, rfl, rfl⟩ (tk [] ⟨.i, ⟨⟩⟩ ⟨⟩))))))))))
 exact .f (.f (.f (.f (.f (.f (.f (ct ⟨_, si h, rfl, rfl⟩ (tk [] ⟨.i, ⟨⟩⟩ ⟨⟩))))))))
 exact auz
def lY (a0 : aq) : Option (Bool) :=
 (if (a0.length : Int) ≥ 1 then
 (if (a0.length : Int) ≤ 20 then
 ld a0 0 >>= fun v3 =>
 some (v3 == (a0.length : Int))
 else
 some false)
 else
 some false)
theorem CR {a0 : aq} {r : Bool} (h : lY a0 = some r) : ACall Tryz.prog 199 [.str a0] [] (fun res h => res = .bool r ∧ h = []) := by
 refine gq Tryz.func199 ?_
 unfold lY at h
 refine .d (.d (sD h (fun kS h => ?_) (fun kS h => ?_)))
 refine .t (.t (.t (sD h (fun np h => ?_) (fun np h => ?_))))
 exact .t (bk h fun v3 hv4 h => (aR (AV hv4) (.t (.t (.t (.t (eB h)))))))
 exact .f (.f (.f (.f (.f (eB h)))))
 exact .f (.f (.f (.f (.f (.f (.f (.f (.f (eB h)))))))))
def gx (a0 : aq) (y4 : Int) : Option ((Unit) ⊕ Bool) :=
 (if y4 < (([[101, 99, 104, 111], [105, 102], [101, 108, 115, 101], [119, 104, 105, 108, 101], [102, 111, 114, 101, 97, 99, 104], [97, 115], [98, 114, 101, 97, 107], [99, 111, 110, 116, 105, 110, 117, 101], [114, 101, 116, 117, 114, 110], [103, 108, 111, 98, 97, 108], [117, 110, 115, 101, 116], [116, 104, 114, 111, 119], [116, 114, 121], [99, 97, 116, 99, 104], [102, 105, 110, 97, 108, 108, 121], [121, 105, 101, 108, 100], [105, 110, 99, 108, 117, 100, 101], [102, 117, 110, 99, 116, 105, 111, 110], [99, 108, 97, 115, 115], [116, 114, 97, 105, 116], [101, 120, 116, 101, 110, 100, 115], [117, 115, 101], [112, 114, 105, 118, 97, 116, 101], [115, 116, 97, 116, 105, 99], [110, 101, 119], [116, 114, 117, 101], [102, 97, 108, 115, 101], [110, 117, 108, 108]] : List aq).length : Int) then
 idx ([[101, 99, 104, 111], [105, 102], [101, 108, 115, 101], [119, 104, 105, 108, 101], [102, 111, 114, 101, 97, 99, 104], [97, 115], [98, 114, 101, 97, 107], [99, 111, 110, 116, 105, 110, 117, 101], [114, 101, 116, 117, 114, 110], [103, 108, 111, 98, 97, 108], [117, 110, 115, 101, 116], [116, 104, 114, 111, 119], [116, 114, 121], [99, 97, 116, 99, 104], [102, 105, 110, 97, 108, 108, 121], [121, 105, 101, 108, 100], [105, 110, 99, 108, 117, 100, 101], [102, 117, 110, 99, 116, 105, 111, 110], [99, 108, 97, 115, 115], [116, 114, 97, 105, 116], [101, 120, 116, 101, 110, 100, 115], [117, 115, 101], [112, 114, 105, 118, 97, 116, 101], [115, 116, 97, 116, 105, 99], [110, 101, 119], [116, 114, 117, 101], [102, 97, 108, 115, 101], [110, 117, 108, 108]] : List aq) y4 >>= fun x8 =>
 (if x8 = a0 then
 some (.inr true)
 else
 gx a0 (aS (y4 + 1)))
 else
 some (.inl ()))
partial_fixpoint
def jk (a0 : aq) : Option (Bool) :=
 ((
 gx a0 0
 : Option ((Unit) ⊕ Bool)) >>= fun o1 => match o1 with
 | .inr r => some r
 | .inl _ =>
 some false
 )
theorem vr {a0 : aq} {r : Bool} (h : jk a0 = some r) : ACall Tryz.prog 200 [.str a0] [] (fun res h => res = .bool r ∧ h = []) := by
 refine gq Tryz.func200 ?_
 unfold jk at h
 refine .d (.d ⟨row cS ([[101, 99, 104, 111], [105, 102], [101, 108, 115, 101], [119, 104, 105, 108, 101], [102, 111, 114, 101, 97, 99, 104], [97, 115], [98, 114, 101, 97, 107], [99, 111, 110, 116, 105, 110, 117, 101], [114, 101, 116, 117, 114, 110], [103, 108, 111, 98, 97, 108], [117, 110, 115, 101, 116], [116, 104, 114, 111, 119], [116, 114, 121], [99, 97, 116, 99, 104], [102, 105, 110, 97, 108, 108, 121], [121, 105, 101, 108, 100], [105, 110, 99, 108, 117, 100, 101], [102, 117, 110, 99, 116, 105, 111, 110], [99, 108, 97, 115, 115], [116, 114, 97, 105, 116], [101, 120, 116, 101, 110, 100, 115], [117, 115, 101], [112, 114, 105, 118, 97, 116, 101], [115, 116, 97, 116, 105, 99], [110, 101, 119], [116, 114, 117, 101], [102, 97, 108, 115, 101], [110, 117, 108, 108]] : List aq), aD cS ([[101, 99, 104, 111], [105, 102], [101, 108, 115, 101], [119, 104, 105, 108, 101], [102, 111, 114, 101, 97, 99, 104], [97, 115], [98, 114, 101, 97, 107], [99, 111, 110, 116, 105, 110, 117, 101], [114, 101, 116, 117, 114, 110], [103, 108, 111, 98, 97, 108], [117, 110, 115, 101, 116], [116, 104, 114, 111, 119], [116, 114, 121], [99, 97, 116, 99, 104], [102, 105, 110, 97, 108, 108, 121], [121, 105, 101, 108, 100], [105, 110, 99, 108, 117, 100, 101], [102, 117, 110, 99, 116, 105, 111, 110], [99, 108, 97, 115, 115], [116, 114, 97, 105, 116], [101, 120, 116, 101, 110, 100, 115], [117, 115, 101], [112, 114, 105, 118, 97, 116, 101], [115, 116, 97, 116, 105, 99], [110, 101, 119], [116, 114, 117, 101], [102, 97, 108, 115, 101], [110, 117, 108, 108]] : List aq) rfl (aB rfl), ?_⟩)
 obtain ⟨o1, JW, gH⟩ := bd h
 replace h := JW
 refine .cut (fun σ η => .inl () = o1 ∧ σ = [] ∧ η = []) ?_ ?_
 refine .d ?_
 refine le (gx.partial_correctness a0 (motive := fun y4 o11 => o1 = o11 → aG _ _ [(0, .str a0), (3, .own 0 0 0 ([[101, 99, 104, 111], [105, 102], [101, 108, 115, 101], [119, 104, 105, 108, 101], [102, 111, 114, 101, 97, 99, 104], [97, 115], [98, 114, 101, 97, 107], [99, 111, 110, 116, 105, 110, 117, 101], [114, 101, 116, 117, 114, 110], [103, 108, 111, 98, 97, 108], [117, 110, 115, 101, 116], [116, 104, 114, 111, 119], [116, 114, 121], [99, 97, 116, 99, 104], [102, 105, 110, 97, 108, 108, 121], [121, 105, 101, 108, 100], [105, 110, 99, 108, 117, 100, 101], [102, 117, 110, 99, 116, 105, 111, 110], [99, 108, 97, 115, 115], [116, 114, 97, 105, 116], [101, 120, 116, 101, 110, 100, 115], [117, 115, 101], [112, 114, 105, 118, 97, 116, 101], [115, 116, 97, 116, 105, 99], [110, 101, 119], [116, 114, 117, 101], [102, 97, 108, 115, 101], [110, 117, 108, 108]] : List aq).length), (4, .int .i64 y4)] [.row 0 1 ([[101, 99, 104, 111], [105, 102], [101, 108, 115, 101], [119, 104, 105, 108, 101], [102, 111, 114, 101, 97, 99, 104], [97, 115], [98, 114, 101, 97, 107], [99, 111, 110, 116, 105, 110, 117, 101], [114, 101, 116, 117, 114, 110], [103, 108, 111, 98, 97, 108], [117, 110, 115, 101, 116], [116, 104, 114, 111, 119], [116, 114, 121], [99, 97, 116, 99, 104], [102, 105, 110, 97, 108, 108, 121], [121, 105, 101, 108, 100], [105, 110, 99, 108, 117, 100, 101], [102, 117, 110, 99, 116, 105, 111, 110], [99, 108, 97, 115, 115], [116, 114, 97, 105, 116], [101, 120, 116, 101, 110, 100, 115], [117, 115, 101], [112, 114, 105, 118, 97, 116, 101], [115, 116, 97, 116, 105, 99], [110, 101, 119], [116, 114, 117, 101], [102, 97, 108, 115, 101], [110, 117, 108, 108]] : List aq).length 9 (row cS ([[101, 99, 104, 111], [105, 102], [101, 108, 115, 101], [119, 104, 105, 108, 101], [102, 111, 114, 101, 97, 99, 104], [97, 115], [98, 114, 101, 97, 107], [99, 111, 110, 116, 105, 110, 117, 101], [114, 101, 116, 117, 114, 110], [103, 108, 111, 98, 97, 108], [117, 110, 115, 101, 116], [116, 104, 114, 111, 119], [116, 114, 121], [99, 97, 116, 99, 104], [102, 105, 110, 97, 108, 108, 121], [121, 105, 101, 108, 100], [105, 110, 99, 108, 117, 100, 101], [102, 117, 110, 99, 116, 105, 111, 110], [99, 108, 97, 115, 115], [116, 114, 97, 105, 116], [101, 120, 116, 101, 110, 100, 115], [117, 115, 101], [112, 114, 105, 118, 97, 116, 101], [115, 116, 97, 116, 105, 99], [110, 101, 119], [116, 114, 117, 101], [102, 97, 108, 115, 101], [110, 117, 108, 108]] : List aq))]) ?_ 0 o1 h rfl) (tk [0] ⟨.s, .o, .i, ⟨⟩⟩ ⟨nw, ⟨⟩⟩)
 intro F6 ih5 y4 o11 h arX
 subst arX
 refine aG.round (.d (.d ⟨rfl, (sD h (fun C9 h => ?_) (fun C9 h => ?_))⟩))
 refine .d (.d (bk h fun x8 SB h => ⟨rfl, aA SB, _, asN _, ⟨rfl, _, ((ax SB).trans rfl), (sE h (fun mo h => ?_) (fun mo h => ?_))⟩⟩))
 refine .d ?_
 exact aup
 exact lg (ih5 _ _ h rfl) (tk [0] ⟨.s, .o, .i, ⟨⟩⟩ ⟨nw, ⟨⟩⟩)
 exact auK
 exact auD
def ck (a0 : aq) : Option (Bool) :=
 lY a0 >>= fun v1 =>
 (if v1 = true then
 jk a0 >>= fun v4 =>
 some (!v4)
 else
 some false)
theorem dV {a0 : aq} {r : Bool} (h : ck a0 = some r) : ACall Tryz.prog 147 [.str a0] [] (fun res h => res = .bool r ∧ h = []) := by
 refine gq Tryz.func147 ?_
 unfold ck at h
 refine .d (.d (bk h fun v1 mq h => (aR (CR mq) (sV h (fun oV h => ?_) (fun oV h => ?_)))))
 exact .t (bk h fun v4 vW h => (aR (vr vW) (.t (.t (eB h)))))
 exact auY
set_option maxRecDepth 100000
def WY (a0 : Int) (a1 : Int) : Option (Int) :=
 (if a1 > a0 then
 some a1
 else
 some a0)
theorem aoZ {a0 : Int} {a1 : Int} {r : Int} (h : WY a0 a1 = some r) : ACall Tryz.prog 71 [.int .i64 a0, .int .i64 a1] [] (fun res h => res = .int .i64 r ∧ h = []) := by
 refine gq Tryz.func71 ?_
 unfold WY at h
 refine .d (.d (.d (sD h (fun kS h => ?_) (fun kS h => ?_))))
 exact auM
 exact auM
def W5 (a0 : Int) (a1 : Int) : Option (Int) :=
 (if a1 > a0 then
 some a1
 else
 some a0)
theorem ao2 {a0 : Int} {a1 : Int} {r : Int} (h : W5 a0 a1 = some r) : ACall Tryz.prog 195 [.int .i64 a0, .int .i64 a1] [] (fun res h => res = .int .i64 r ∧ h = []) := by
 refine gq Tryz.func195 ?_
 unfold W5 at h
 refine .d (.d (.d (sD h (fun kS h => ?_) (fun kS h => ?_))))
 exact auM
 exact auM
def nD (a0 : aq) (a1 : Int) (a2 : aq) : Option (Bool) :=
 (if (a2.length : Int) ≤ (aS ((a0.length : Int) - a1)) then
 GC a0 a1 (aS (a1 + (a2.length : Int))) >>= fun s2 =>
 some (s2 == a2)
 else
 some false)
theorem Er {a0 : aq} {a1 : Int} {a2 : aq} {r : Bool} (h : nD a0 a1 a2 = some r) : ACall Tryz.prog 100 [.str a0, .int .i64 a1, .str a2] [] (fun res h => res = .bool r ∧ h = []) := by
 refine gq Tryz.func100 ?_
 unfold nD at h
 refine .d (.d (sD h (fun kS h => ?_) (fun kS h => ?_)))
 exact .t (.t (.t (.t (.t (.t (bk h fun s2 hx3 h => ⟨FP hx3, s2, FQ hx3, (.t (.t (.t (eB h))))⟩))))))
 exact .f (.f (.f (.f (.f (.f (.f (.f (.f (eB h)))))))))
def iv (a0 : aq) (y4 : Int) : Option ((Unit) ⊕ (aq × aq)) :=
 (if (aS (y4 + 1)) < (a0.length : Int) then
 GC a0 y4 (aS (y4 + 2)) >>= fun s8 =>
 (if s8 = ([58, 58] : aq) then
 sto a0 y4 >>= fun s11 =>
 E8 a0 (aS (y4 + 2)) >>= fun OO =>
 some (.inr (s11, OO))
 else
 iv a0 (aS (y4 + 1)))
 else
 some (.inl ()))
partial_fixpoint
def kC (a0 : aq) : Option (aq × aq) :=
 ((
 iv a0 0
 : Option ((Unit) ⊕ (aq × aq))) >>= fun o1 => match o1 with
 | .inr r => some r
 | .inl _ =>
 some ([], [])
 )
theorem yu {a0 : aq} {r : aq × aq} (h : kC a0 = some r) : ACall Tryz.prog 148 [.str a0] [] (fun res h => res = .aV [.str r.1, .str r.2] ∧ h = []) := by
 refine gq Tryz.func148 ?_
 unfold kC at h
 refine .d ?_
 obtain ⟨o1, JW, gH⟩ := bd h
 replace h := JW
 refine .cut (fun σ η => .inl () = o1 ∧ σ = [] ∧ η = []) ?_ ?_
 refine .d ?_
 refine le (iv.partial_correctness a0 (motive := fun y4 o15 => o1 = o15 → aG _ _ [(0, .str a0), (4, .int .i64 y4)] []) ?_ 0 o1 h rfl) (tk [] ⟨.s, .i, ⟨⟩⟩ ⟨⟩)
 intro F6 ih5 y4 o15 h W4
 subst W4
 refine aG.round (.d (.d (sD h (fun C9 h => ?_) (fun C9 h => ?_))))
 refine .d (.d (bk h fun s8 SB h => ⟨FP SB, s8, FQ SB, (sE h (fun mo h => ?_) (fun mo h => ?_))⟩))
 refine .d (bk h fun s11 vN h => ⟨acm vN, s11, acn vN, (bk h fun OO yv h => ⟨NP yv, OO, NQ yv, ?_⟩)⟩)
 obtain rfl := si h
 replace h := gH
 obtain rfl := si h
 exact en [] ⟨rfl, rfl⟩ (.bu ⟨.s, .s, ⟨⟩⟩) ⟨⟩
 exact lg (ih5 _ _ h rfl) (tk [] ⟨.s, .i, ⟨⟩⟩ ⟨⟩)
 exact auK
 rintro _ _ ⟨rfl, rfl, rfl⟩
 replace h := gH
 refine .d ?_
 obtain rfl := si h
 exact en [] ⟨rfl, rfl⟩ (.bu ⟨.s, .s, ⟨⟩⟩) ⟨⟩
def kQ (a0 : List aq) (a1 : Int) : Option (aq) :=
 tA a1 0 (aS ((a0.length : Int) - 1)) >>= fun v1 =>
 (if v1 = true then
 idx a0 a1 >>= fun x4 =>
 some x4
 else
 some [])
theorem uE {a0 : List aq} {a1 : Int} {r : aq} (h : kQ a0 a1 = some r) : ACall Tryz.prog 86 [sl 1 cS a0, .int .i64 a1] [] (fun res h => res = .str r ∧ h = []) := by
 refine gq Tryz.func86 ?_
 unfold kQ at h
 refine .d (.d (.d (bk h fun v1 mq h => (aR (ns mq) (jV h (fun oV h => ?_) (fun oV h => ?_))))))
 exact .d (eS h)
 exact .d (bk h fun x4 hx5 h => ⟨aA hx5, _, (ax hx5).trans rfl, (eS h)⟩)
def dk (a0 : Int) : Option (Int) :=
 (if a0 ≤ 2 then
 some 9
 else
 (if a0 ≤ 5 then
 some 10
 else
 (if a0 = 6 then
 some 8
 else
 (if a0 ≤ 10 then
 some 6
 else
 some 7))))
theorem mQ {a0 : Int} {r : Int} (h : dk a0 = some r) : ACall Tryz.prog 88 [.int .i64 a0] [] (fun res h => res = .int .i64 r ∧ h = []) := by
 refine gq Tryz.func88 ?_
 unfold dk at h
 refine .d (.d (.d (sD h (fun kS h => ?_) (fun kS h => ?_))))
 exact auM
 refine .d (sD h (fun np h => ?_) (fun np h => ?_))
 exact auM
 refine .d (sE h (fun oV h => ?_) (fun oV h => ?_))
 exact auM
 refine .d (sD h (fun Bb h => ?_) (fun Bb h => ?_))
 exact auM
 exact auM
def jw (a0 : Int) : Option (aq) :=
 tA a0 1 15 >>= fun v1 =>
 (if v1 = true then
 idx ([[], [43], [45], [42], [47], [37], [46], [61, 61], [33, 61], [61, 61, 61], [33, 61, 61], [60], [60, 61], [62], [62, 61], [60, 61, 62]] : List aq) a0 >>= fun x4 =>
 some x4
 else
 some [])
theorem xX {a0 : Int} {r : aq} (h : jw a0 = some r) : ACall Tryz.prog 89 [.int .i64 a0] [] (fun res h => res = .str r ∧ h = []) := by
 refine gq Tryz.func89 ?_
 unfold jw at h
 refine .d (.d (.d (bk h fun v1 mq h => (aR (ns mq) (jV h (fun oV h => ?_) (fun oV h => ?_))))))
 exact .d (eS h)
 exact .d ⟨row cS ([[], [43], [45], [42], [47], [37], [46], [61, 61], [33, 61], [61, 61, 61], [33, 61, 61], [60], [60, 61], [62], [62, 61], [60, 61, 62]] : List aq), aD cS ([[], [43], [45], [42], [47], [37], [46], [61, 61], [33, 61], [61, 61, 61], [33, 61, 61], [60], [60, 61], [62], [62, 61], [60, 61, 62]] : List aq) rfl (aB rfl), (.d (bk h fun x4 hx5 h => ⟨rfl, aA hx5, _, asN _, ⟨rfl, _, ((ax hx5).trans rfl), (eS h)⟩⟩))⟩
def dN (a0 : aq) (l5 : List UInt8) (y6 : Int) : Option ((List UInt8)) :=
 (if y6 < (a0.length : Int) then
 n9 a0 y6 >>= fun c10 =>
 (if (c10.toNat : Int) = 39 then
 n8 1 l5 ([(92 : UInt8)] : List UInt8) >>= fun RA =>
 n9 a0 y6 >>= fun CP =>
 n8 1 RA ([CP] : List UInt8) >>= fun RB =>
 dN a0 RB (aS (y6 + 1))
 else
 n9 a0 y6 >>= fun c19 =>
 (if (c19.toNat : Int) = 92 then
 n8 1 l5 ([(92 : UInt8)] : List UInt8) >>= fun RC =>
 n9 a0 y6 >>= fun c24 =>
 n8 1 RC ([c24] : List UInt8) >>= fun RD =>
 dN a0 RD (aS (y6 + 1))
 else
 n9 a0 y6 >>= fun c28 =>
 n8 1 l5 ([c28] : List UInt8) >>= fun RE =>
 dN a0 RE (aS (y6 + 1))))
 else
 some l5)
partial_fixpoint
def iD (a0 : aq) : Option (aq) :=
 (
 dN a0 ([(39 : UInt8)] : List UInt8) 0
 : Option ((List UInt8))) >>= fun l1 =>
 n8 1 l1 ([(39 : UInt8)] : List UInt8) >>= fun N0 =>
 some N0
theorem pe {a0 : aq} {r : aq} (h : iD a0 = some r) : ACall Tryz.prog 83 [.str a0] [] (fun res h => res = .str r ∧ h = []) := by
 refine gq Tryz.func83 ?_
 unfold iD at h
 refine .d (.d ⟨row cB ([(39 : UInt8)] : List UInt8), aD cB ([(39 : UInt8)] : List UInt8) rfl (aB rfl), ?_⟩)
 obtain ⟨o2, vL, vM⟩ := bd h
 replace h := vL
 refine .cut (fun σ η => ∃ l1, l1 = o2 ∧ σ = [(3, .own 0 0 0 l1.length)] ∧ η = [.row 0 1 l1.length 5 (row cB l1)]) ?_ ?_
 refine .d ?_
 refine le (dN.partial_correctness a0 (motive := fun l5 y6 o32 => o2 = o32 → aG _ _ [(0, .str a0), (3, .own 0 0 0 l5.length), (4, .int .i64 y6)] [.row 0 1 l5.length 5 (row cB l5)]) ?_ ([(39 : UInt8)] : List UInt8) 0 o2 h rfl) (tk [0] ⟨.s, .o, .i, ⟨⟩⟩ ⟨nw, ⟨⟩⟩)
 intro F8 zA l5 y6 o32 h acz
 subst acz
 refine aG.round (.d (.d (sD h (fun C8 h => ?_) (fun C8 h => ?_))))
 refine .d (.d (.d (bk h fun c10 BB h => ⟨ig BB, c10, ij BB, (sE h (fun oO h => ?_) (fun oO h => ?_))⟩)))
 exact .t (.t (.t (.t (.t ⟨row cB ([(92 : UInt8)] : List UInt8), aD cB ([(92 : UInt8)] : List UInt8) rfl (aB rfl), (bk h fun RA yv h => ⟨rfl, rfl, lF (l := ([(92 : UInt8)] : List UInt8)) aN, jS yv, RA.length, row cB RA, gw yv, gN yv aN (jT aN), (bk h fun CP CQ h => ⟨ig CQ, CP, ij CQ, ⟨row cB ([CP] : List UInt8), aD cB ([CP] : List UInt8) rfl (aB rfl), (bk h fun RB qy h => ⟨rfl, rfl, lF (l := ([CP] : List UInt8)) aN, jS qy, RB.length, row cB RB, gw qy, gN qy aN (jT aN), (lg (zA _ _ _ h rfl) (tk [0] ⟨.s, .o, .i, ⟨⟩⟩ ⟨nw, ⟨⟩⟩))⟩)⟩⟩)⟩)⟩))))
 refine .f (.f (bk h fun c19 s9 h => ⟨ig s9, c19, ij s9, (.f (.f (sE h (fun qs h => ?_) (fun qs h => ?_))))⟩))
 exact ⟨row cB ([(92 : UInt8)] : List UInt8), aD cB ([(92 : UInt8)] : List UInt8) rfl (aB rfl), (bk h fun RC Es h => ⟨rfl, rfl, lF (l := ([(92 : UInt8)] : List UInt8)) aN, jS Es, RC.length, row cB RC, gw Es, gN Es aN (jT aN), (bk h fun c24 N1 h => ⟨ig N1, c24, ij N1, ⟨row cB ([c24] : List UInt8), aD cB ([c24] : List UInt8) rfl (aB rfl), (bk h fun RD Et h => ⟨rfl, rfl, lF (l := ([c24] : List UInt8)) aN, jS Et, RD.length, row cB RD, gw Et, gN Et aN (jT aN), (lg (zA _ _ _ h rfl) (tk [0] ⟨.s, .o, .i, ⟨⟩⟩ ⟨nw, ⟨⟩⟩))⟩)⟩⟩)⟩)⟩
 exact bk h fun c28 N2 h => ⟨ig N2, c28, ij N2, ⟨row cB ([c28] : List UInt8), aD cB ([c28] : List UInt8) rfl (aB rfl), (bk h fun RE tF h => ⟨rfl, rfl, lF (l := ([c28] : List UInt8)) aN, jS tF, RE.length, row cB RE, gw tF, gN tF aN (jT aN), (lg (zA _ _ _ h rfl) (tk [0] ⟨.s, .o, .i, ⟨⟩⟩ ⟨nw, ⟨⟩⟩))⟩)⟩⟩
 exact avc
 rintro _ _ ⟨l1, rfl, rfl, rfl⟩
 replace h := vM
 exact .d ⟨row cB ([(39 : UInt8)] : List UInt8), aD cB ([(39 : UInt8)] : List UInt8) rfl (aB rfl), (bk h fun N0 Eu h => ⟨rfl, rfl, lF (l := ([(39 : UInt8)] : List UInt8)) aN, jS Eu, N0.length, row cB N0, gw Eu, gN Eu aN (jT aN), ⟨rfl, N0, rfl, mK aN rfl, (eS h)⟩⟩)⟩
def pq (s6 : aq) (y7 : Int) : Option (aq) :=
 (if y7 = 0 then
 some s6
 else
 (if (y7.tmod 10) < 0 then
 aI ([UInt8.ofNat (IntKind.u8.wrap (aS (48 + (aS (0 - (y7.tmod 10)))))).toNat] : List UInt8) s6 >>= fun s12 =>
 pq s12 (aS (y7.tdiv 10))
 else
 aI ([UInt8.ofNat (IntKind.u8.wrap (aS (48 + (y7.tmod 10)))).toNat] : List UInt8) s6 >>= fun s14 =>
 pq s14 (aS (y7.tdiv 10))))
partial_fixpoint
def m94 (a0 : Int) : Option (aq) :=
 (if a0 = 0 then
 some [48]
 else
 (
 pq [] a0
 : Option (aq)) >>= fun s2 =>
 (if a0 < 0 then
 aI [45] s2 >>= fun s19 =>
 some s19
 else
 some s2))
theorem apG {a0 : Int} {r : aq} (h : m94 a0 = some r) : ACall Tryz.prog 85 [.int .i64 a0] [] (fun res h => res = .str r ∧ h = []) := by
 refine gq Tryz.func85 ?_
 unfold m94 at h
 refine .d (.d (.d (sE h (fun kS h => ?_) (fun kS h => ?_))))
 exact .d (eS h)
 refine .d ?_
 obtain ⟨o3, ho4, hk5⟩ := bd h
 replace h := ho4
 refine .cut (fun σ η => ∃ s2, s2 = o3 ∧ σ = [(0, .int .i64 a0), (3, .str s2)] ∧ η = []) ?_ ?_
 refine .d ?_
 refine le (pq.partial_correctness  (motive := fun s6 y7 W7 => o3 = W7 → aG _ _ [(0, .int .i64 a0), (3, .str s6), (4, .int .i64 y7)] []) ?_ [] a0 o3 h rfl) (tk [] ⟨.i, .s, .i, ⟨⟩⟩ ⟨⟩)
 intro F9 ih8 s6 y7 W7 h W9
 subst W9
 refine aG.round (.d (.d (sN h (fun mo h => ?_) (fun mo h => ?_))))
 refine .d (.d ⟨by decide, (.d (.d (sD h (fun rS h => ?_) (fun rS h => ?_))))⟩)
 exact ⟨row cB ([UInt8.ofNat (IntKind.u8.wrap (aS (48 + (aS (0 - (y7.tmod 10)))))).toNat] : List UInt8), aD cB ([UInt8.ofNat (IntKind.u8.wrap (aS (48 + (aS (0 - (y7.tmod 10)))))).toNat] : List UInt8) rfl (CI (FO _) ⟨.same _, trivial⟩ trivial), ⟨rfl, ([UInt8.ofNat (IntKind.u8.wrap (aS (48 + (aS (0 - (y7.tmod 10)))))).toNat] : List UInt8), rfl, mK aN rfl, (bk h fun s12 IF h => ⟨ay IF, s12, az IF, ⟨by decide, (lg (ih8 _ _ _ h rfl) (tk [] ⟨.i, .s, .i, ⟨⟩⟩ ⟨⟩))⟩⟩)⟩⟩
 exact ⟨row cB ([UInt8.ofNat (IntKind.u8.wrap (aS (48 + (y7.tmod 10)))).toNat] : List UInt8), aD cB ([UInt8.ofNat (IntKind.u8.wrap (aS (48 + (y7.tmod 10)))).toNat] : List UInt8) rfl (CI (FO _) ⟨.same _, trivial⟩ trivial), ⟨rfl, ([UInt8.ofNat (IntKind.u8.wrap (aS (48 + (y7.tmod 10)))).toNat] : List UInt8), rfl, mK aN rfl, (bk h fun s14 wj h => ⟨ay wj, s14, az wj, ⟨by decide, (lg (ih8 _ _ _ h rfl) (tk [] ⟨.i, .s, .i, ⟨⟩⟩ ⟨⟩))⟩⟩)⟩⟩
 exact ct ⟨_, si h, rfl, rfl⟩ (tk [] ⟨.i, .s, ⟨⟩⟩ ⟨⟩)
 rintro _ _ ⟨s2, rfl, rfl, rfl⟩
 replace h := hk5
 refine .d (.d (sD h (fun sf h => ?_) (fun sf h => ?_)))
 exact .d (bk h fun s19 s9 h => ⟨ay s9, s19, az s9, (eS h)⟩)
 exact .d (eS h)
def km (a0 : ae) : Option (Int) :=
 (
 (if a0.ai = 15 then
 some (a0.ai == 15)
 else
 (if a0.ai = 16 then
 some (a0.ai == 16)
 else
 some (a0.ai == 17)))
 : Option (Bool)) >>= fun b1 =>
 (if b1 = true then
 some 1
 else
 (if a0.ai = 14 then
 some 2
 else
 (if a0.ai = 13 then
 some 3
 else
 (if a0.ai = 12 then
 some 4
 else
 (if a0.ai = 11 then
 some 5
 else
 (if a0.ai = 10 then
 dk a0.aC >>= fun o9 =>
 some o9
 else
 (if a0.ai = 9 then
 some 11
 else
 some 12)))))))
theorem xW {a0 : ae} {r : Int} (h : km a0 = some r) : ACall Tryz.prog 150 [.agg a0.lit] [] (fun res h => res = .int .i64 r ∧ h = []) := by
 refine gq Tryz.func150 ?_
 unfold km at h
 refine .d (.d (.d ⟨rfl, ⟨rfl, _, rfl, ?_⟩⟩))
 obtain ⟨o2, vL, vM⟩ := bd h
 replace h := vL
 refine .cut (fun σ η => ∃ b1, b1 = o2 ∧ σ = [(1, .aL 0 0 0 0), (4, .int .i64 a0.ai), (5, .bool b1)] ∧ η = [.row 0 4 1 29 (fun _ => a0.lit)]) ?_ ?_
 refine .d (sE h (fun Bc h => ?_) (fun Bc h => ?_))
 exact auP
 refine .d (sE h (fun vA h => ?_) (fun vA h => ?_))
 exact auP
 exact auP
 rintro _ _ ⟨b1, rfl, rfl, rfl⟩
 replace h := vM
 refine sV h (fun C9 h => ?_) (fun C9 h => ?_)
 exact auM
 refine .d (sE h (fun Be h => ?_) (fun Be h => ?_))
 exact auM
 refine .d (sE h (fun C8 h => ?_) (fun C8 h => ?_))
 exact auM
 refine .d (sE h (fun mo h => ?_) (fun mo h => ?_))
 exact auM
 refine .d (sE h (fun rS h => ?_) (fun rS h => ?_))
 exact auM
 refine .d (sE h (fun oO h => ?_) (fun oO h => ?_))
 exact .d ⟨rfl, ⟨rfl, _, rfl, (bk h fun o9 qL h => (aR (mQ qL) (eI h)))⟩⟩
 refine .d (sE h (fun lI h => ?_) (fun lI h => ?_))
 exact auM
 exact auM
def bD (a0 : ae) : Option (Bool) :=
 (if a0.ai < 31 then
 some (a0.ai != 24)
 else
 some false)
theorem wu {a0 : ae} {r : Bool} (h : bD a0 = some r) : ACall Tryz.prog 81 [.agg a0.lit] [] (fun res h => res = .bool r ∧ h = []) := by
 refine gq Tryz.func81 ?_
 unfold bD at h
 refine .d (.d ⟨rfl, ⟨rfl, _, rfl, (sD h (fun kS h => ?_) (fun kS h => ?_))⟩⟩)
 exact ⟨rfl, (.t ⟨rfl, _, rfl, (.t (.t (eB h)))⟩)⟩
 exact auY
def kB (a0 : Int) : Option (aq) :=
 (if a0 < 1 then
 some []
 else
 (if a0 > 15 then
 some []
 else
 idx ([[43], [45], [42], [47], [37], [46], [61, 61], [33, 61], [61, 61, 61], [33, 61, 61], [60], [60, 61], [62], [62, 61], [60, 61, 62]] : List aq) (aS (a0 - 1)) >>= fun x3 =>
 some x3))
theorem ym {a0 : Int} {r : aq} (h : kB a0 = some r) : ACall Tryz.prog 155 [.int .i64 a0] [] (fun res h => res = .str r ∧ h = []) := by
 refine gq Tryz.func155 ?_
 unfold kB at h
 refine .d (.d ⟨row cS ([[43], [45], [42], [47], [37], [46], [61, 61], [33, 61], [61, 61, 61], [33, 61, 61], [60], [60, 61], [62], [62, 61], [60, 61, 62]] : List aq), aD cS ([[43], [45], [42], [47], [37], [46], [61, 61], [33, 61], [61, 61, 61], [33, 61, 61], [60], [60, 61], [62], [62, 61], [60, 61, 62]] : List aq) rfl (aB rfl), (.d (.d (sD h (fun kS h => ?_) (fun kS h => ?_))))⟩)
 exact .t (.t (.t (.d (eS h))))
 refine .f (.f (sD h (fun np h => ?_) (fun np h => ?_)))
 exact .d (eS h)
 exact .d (bk h fun x3 hx4 h => ⟨rfl, aA hx4, _, asN _, ⟨rfl, _, ((ax hx4).trans rfl), (eS h)⟩⟩)
def dO (a0 : aq) (l5 : List UInt8) (y6 : Int) : Option ((List UInt8)) :=
 (if y6 < (a0.length : Int) then
 n9 a0 y6 >>= fun c10 =>
 (if (c10.toNat : Int) = 39 then
 n8 1 l5 ([(92 : UInt8)] : List UInt8) >>= fun RA =>
 n9 a0 y6 >>= fun CP =>
 n8 1 RA ([CP] : List UInt8) >>= fun RB =>
 dO a0 RB (aS (y6 + 1))
 else
 n9 a0 y6 >>= fun c19 =>
 (if (c19.toNat : Int) = 92 then
 n8 1 l5 ([(92 : UInt8)] : List UInt8) >>= fun RC =>
 n9 a0 y6 >>= fun c24 =>
 n8 1 RC ([c24] : List UInt8) >>= fun RD =>
 dO a0 RD (aS (y6 + 1))
 else
 n9 a0 y6 >>= fun c28 =>
 n8 1 l5 ([c28] : List UInt8) >>= fun RE =>
 dO a0 RE (aS (y6 + 1))))
 else
 some l5)
partial_fixpoint
def iF (a0 : aq) : Option (aq) :=
 (
 dO a0 ([(39 : UInt8)] : List UInt8) 0
 : Option ((List UInt8))) >>= fun l1 =>
 n8 1 l1 ([(39 : UInt8)] : List UInt8) >>= fun N0 =>
 some N0
theorem pL {a0 : aq} {r : aq} (h : iF a0 = some r) : ACall Tryz.prog 96 [.str a0] [] (fun res h => res = .str r ∧ h = []) := by
 refine gq Tryz.func96 ?_
 unfold iF at h
 refine .d (.d ⟨row cB ([(39 : UInt8)] : List UInt8), aD cB ([(39 : UInt8)] : List UInt8) rfl (aB rfl), ?_⟩)
 obtain ⟨o2, vL, vM⟩ := bd h
 replace h := vL
 refine .cut (fun σ η => ∃ l1, l1 = o2 ∧ σ = [(3, .own 0 0 0 l1.length)] ∧ η = [.row 0 1 l1.length 5 (row cB l1)]) ?_ ?_
 refine .d ?_
 refine le (dO.partial_correctness a0 (motive := fun l5 y6 o32 => o2 = o32 → aG _ _ [(0, .str a0), (3, .own 0 0 0 l5.length), (4, .int .i64 y6)] [.row 0 1 l5.length 5 (row cB l5)]) ?_ ([(39 : UInt8)] : List UInt8) 0 o2 h rfl) (tk [0] ⟨.s, .o, .i, ⟨⟩⟩ ⟨nw, ⟨⟩⟩)
 intro F8 zA l5 y6 o32 h acz
 subst acz
 refine aG.round (.d (.d (sD h (fun C8 h => ?_) (fun C8 h => ?_))))
 refine .d (.d (.d (bk h fun c10 BB h => ⟨ig BB, c10, ij BB, (sE h (fun oO h => ?_) (fun oO h => ?_))⟩)))
 exact .t (.t (.t (.t (.t ⟨row cB ([(92 : UInt8)] : List UInt8), aD cB ([(92 : UInt8)] : List UInt8) rfl (aB rfl), (bk h fun RA yv h => ⟨rfl, rfl, lF (l := ([(92 : UInt8)] : List UInt8)) aN, jS yv, RA.length, row cB RA, gw yv, gN yv aN (jT aN), (bk h fun CP CQ h => ⟨ig CQ, CP, ij CQ, ⟨row cB ([CP] : List UInt8), aD cB ([CP] : List UInt8) rfl (aB rfl), (bk h fun RB qy h => ⟨rfl, rfl, lF (l := ([CP] : List UInt8)) aN, jS qy, RB.length, row cB RB, gw qy, gN qy aN (jT aN), (lg (zA _ _ _ h rfl) (tk [0] ⟨.s, .o, .i, ⟨⟩⟩ ⟨nw, ⟨⟩⟩))⟩)⟩⟩)⟩)⟩))))
 refine .f (.f (bk h fun c19 s9 h => ⟨ig s9, c19, ij s9, (.f (.f (sE h (fun qs h => ?_) (fun qs h => ?_))))⟩))
 exact ⟨row cB ([(92 : UInt8)] : List UInt8), aD cB ([(92 : UInt8)] : List UInt8) rfl (aB rfl), (bk h fun RC Es h => ⟨rfl, rfl, lF (l := ([(92 : UInt8)] : List UInt8)) aN, jS Es, RC.length, row cB RC, gw Es, gN Es aN (jT aN), (bk h fun c24 N1 h => ⟨ig N1, c24, ij N1, ⟨row cB ([c24] : List UInt8), aD cB ([c24] : List UInt8) rfl (aB rfl), (bk h fun RD Et h => ⟨rfl, rfl, lF (l := ([c24] : List UInt8)) aN, jS Et, RD.length, row cB RD, gw Et, gN Et aN (jT aN), (lg (zA _ _ _ h rfl) (tk [0] ⟨.s, .o, .i, ⟨⟩⟩ ⟨nw, ⟨⟩⟩))⟩)⟩⟩)⟩)⟩
 exact bk h fun c28 N2 h => ⟨ig N2, c28, ij N2, ⟨row cB ([c28] : List UInt8), aD cB ([c28] : List UInt8) rfl (aB rfl), (bk h fun RE tF h => ⟨rfl, rfl, lF (l := ([c28] : List UInt8)) aN, jS tF, RE.length, row cB RE, gw tF, gN tF aN (jT aN), (lg (zA _ _ _ h rfl) (tk [0] ⟨.s, .o, .i, ⟨⟩⟩ ⟨nw, ⟨⟩⟩))⟩)⟩⟩
 exact avc
 rintro _ _ ⟨l1, rfl, rfl, rfl⟩
 replace h := vM
 exact .d ⟨row cB ([(39 : UInt8)] : List UInt8), aD cB ([(39 : UInt8)] : List UInt8) rfl (aB rfl), (bk h fun N0 Eu h => ⟨rfl, rfl, lF (l := ([(39 : UInt8)] : List UInt8)) aN, jS Eu, N0.length, row cB N0, gw Eu, gN Eu aN (jT aN), ⟨rfl, N0, rfl, mK aN rfl, (eS h)⟩⟩)⟩
def j7 (a0 : Int) : Option (Int) :=
 (
 (if a0 = 7 then
 some (a0 == 7)
 else
 (if a0 = 8 then
 some (a0 == 8)
 else
 (if a0 = 9 then
 some (a0 == 9)
 else
 some (a0 == 10))))
 : Option (Bool)) >>= fun b1 =>
 (if b1 = true then
 some 6
 else
 (
 (if a0 = 11 then
 some (a0 == 11)
 else
 (if a0 = 12 then
 some (a0 == 12)
 else
 (if a0 = 13 then
 some (a0 == 13)
 else
 (if a0 = 14 then
 some (a0 == 14)
 else
 some (a0 == 15)))))
 : Option (Bool)) >>= fun b9 =>
 (if b9 = true then
 some 7
 else
 (if a0 = 6 then
 some 8
 else
 (if a0 = 1 then
 some 9
 else
 (if a0 = 2 then
 some 9
 else
 some 10)))))
theorem s7 {a0 : Int} {r : Int} (h : j7 a0 = some r) : ACall Tryz.prog 151 [.int .i64 a0] [] (fun res h => res = .int .i64 r ∧ h = []) := by
 refine gq Tryz.func151 ?_
 unfold j7 at h
 refine .d (.d (.d ?_))
 obtain ⟨o2, vL, vM⟩ := bd h
 replace h := vL
 refine .cut (fun σ η => ∃ b1, b1 = o2 ∧ σ = [(3, .int .i64 a0), (4, .bool b1)] ∧ η = []) ?_ ?_
 refine .d (sE h (fun Bc h => ?_) (fun Bc h => ?_))
 exact auO
 refine .d (sE h (fun vA h => ?_) (fun vA h => ?_))
 exact auO
 refine .d (sE h (fun C9 h => ?_) (fun C9 h => ?_))
 exact auO
 exact auO
 rintro _ _ ⟨b1, rfl, rfl, rfl⟩
 replace h := vM
 refine sV h (fun Be h => ?_) (fun Be h => ?_)
 exact auM
 obtain ⟨Xp, I8, I9⟩ := bd h
 replace h := I8
 refine .cut (fun σ η => ∃ b9, b9 = Xp ∧ σ = [(3, .int .i64 a0), (9, .bool b9)] ∧ η = []) ?_ ?_
 refine .d (sE h (fun rW h => ?_) (fun rW h => ?_))
 exact auO
 refine .d (sE h (fun uY h => ?_) (fun uY h => ?_))
 exact auO
 refine .d (sE h (fun lI h => ?_) (fun lI h => ?_))
 exact auO
 refine .d (sE h (fun oN h => ?_) (fun oN h => ?_))
 exact auO
 exact auO
 rintro _ _ ⟨b9, rfl, rfl, rfl⟩
 replace h := I9
 refine sV h (fun rX h => ?_) (fun rX h => ?_)
 exact auM
 refine .d (sE h (fun sf h => ?_) (fun sf h => ?_))
 exact auM
 refine .d (.d (sE h (fun we h => ?_) (fun we h => ?_)))
 exact .kt we (.d (eI h))
 refine sE h (fun uZ h => ?_) (fun uZ h => ?_)
 exact auM
 exact auM
def lh (a0 : ae) : Option (Int) :=
 (
 (if a0.ai = 15 then
 some (a0.ai == 15)
 else
 (if a0.ai = 16 then
 some (a0.ai == 16)
 else
 some (a0.ai == 17)))
 : Option (Bool)) >>= fun b1 =>
 (if b1 = true then
 some 1
 else
 (if a0.ai = 14 then
 some 2
 else
 (if a0.ai = 13 then
 some 3
 else
 (if a0.ai = 12 then
 some 4
 else
 (if a0.ai = 11 then
 some 5
 else
 (if a0.ai = 10 then
 j7 a0.aC >>= fun o9 =>
 some o9
 else
 (if a0.ai = 9 then
 some 11
 else
 some 12)))))))
theorem AP {a0 : ae} {r : Int} (h : lh a0 = some r) : ACall Tryz.prog 92 [.agg a0.lit] [] (fun res h => res = .int .i64 r ∧ h = []) := by
 refine gq Tryz.func92 ?_
 unfold lh at h
 refine .d (.d (.d ⟨rfl, ⟨rfl, _, rfl, ?_⟩⟩))
 obtain ⟨o2, vL, vM⟩ := bd h
 replace h := vL
 refine .cut (fun σ η => ∃ b1, b1 = o2 ∧ σ = [(1, .aL 0 0 0 0), (4, .int .i64 a0.ai), (5, .bool b1)] ∧ η = [.row 0 4 1 29 (fun _ => a0.lit)]) ?_ ?_
 refine .d (sE h (fun Bc h => ?_) (fun Bc h => ?_))
 exact auP
 refine .d (sE h (fun vA h => ?_) (fun vA h => ?_))
 exact auP
 exact auP
 rintro _ _ ⟨b1, rfl, rfl, rfl⟩
 replace h := vM
 refine sV h (fun C9 h => ?_) (fun C9 h => ?_)
 exact auM
 refine .d (sE h (fun Be h => ?_) (fun Be h => ?_))
 exact auM
 refine .d (sE h (fun C8 h => ?_) (fun C8 h => ?_))
 exact auM
 refine .d (sE h (fun mo h => ?_) (fun mo h => ?_))
 exact auM
 refine .d (sE h (fun rS h => ?_) (fun rS h => ?_))
 exact auM
 refine .d (sE h (fun oO h => ?_) (fun oO h => ?_))
 exact .d ⟨rfl, ⟨rfl, _, rfl, (bk h fun o9 qL h => (aR (s7 qL) (eI h)))⟩⟩
 refine .d (sE h (fun lI h => ?_) (fun lI h => ?_))
 exact auM
 exact auM
def iw (y8 : Int) (y9 : Int) (N3 : aq) (vm : List ae) : Option (Int × Int × aq × (List ae)) :=
 (if y8 = 7 then
 (if (vm.length : Int) > 0 then
 idx vm 0 >>= fun tf =>
 iw tf.ai tf.aC tf.aj tf.ah
 else
 some (y8, y9, N3, vm))
 else
 some (y8, y9, N3, vm))
partial_fixpoint
def jx (a0 : ae) : Option (Bool) :=
 (
 iw a0.ai a0.aC a0.aj a0.ah
 : Option (Int × Int × aq × (List ae))) >>= fun (y1, y2, s3, l4) =>
 (if y1 = 4 then
 some true
 else
 some (y1 == 8))
theorem qC {a0 : ae} {r : Bool} (h : jx a0 = some r) : ACall Tryz.prog 112 [.agg a0.lit] [] (fun res h => res = .bool r ∧ h = []) := by
 refine gq Tryz.func112 ?_
 unfold jx at h
 refine .d ?_
 obtain ⟨o5, ho6, ve⟩ := bd h
 replace h := ho6
 refine .cut (fun σ η => ∃ y1, ∃ y2, ∃ s3, ∃ l4, (y1, y2, s3, l4) = o5 ∧ σ = [(1, .aL 0 0 0 0)] ∧ η = [.row 0 4 1 29 (fun _ => [.int .i64 y1, .int .i64 y2, .str s3, sl 4 ae.cells l4])]) ?_ ?_
 refine le (iw.partial_correctness  (motive := fun y8 y9 N3 vm IG => o5 = IG → aG _ _ [(1, .aL 0 0 0 0)] [.row 0 4 1 29 (fun _ => [.int .i64 y8, .int .i64 y9, .str N3, sl 4 ae.cells vm])]) ?_ a0.ai a0.aC a0.aj a0.ah o5 h rfl) (tk [0] ⟨.p, ⟨⟩⟩ ⟨(bZ rfl), ⟨⟩⟩)
 intro F13 Eo y8 y9 N3 vm IG h acA
 subst acA
 refine aG.round (.d (.d ⟨rfl, ⟨rfl, _, rfl, (sE h (fun uY h => ?_) (fun uY h => ?_))⟩⟩))
 refine ⟨rfl, (.t ⟨rfl, _, rfl, (.t (.t (.t (sD h (fun lI h => ?_) (fun lI h => ?_)))))⟩)⟩
 exact ⟨rfl, ⟨rfl, _, rfl, (bk h fun tf CN h => ⟨aA CN, _, (ax CN).trans (ae.au tf), ⟨rfl, _, fun _ => [.int .i64 tf.ai, .int .i64 tf.aC, .str tf.aj, sl 4 ae.cells tf.ah], rfl, bI rfl, (lg (Eo _ _ _ _ _ h rfl) (tk [0] ⟨.p, ⟨⟩⟩ ⟨(bZ rfl), ⟨⟩⟩))⟩⟩)⟩⟩
 exact ct ⟨_, _, _, _, si h, rfl, rfl⟩ (tk [0] ⟨.p, ⟨⟩⟩ ⟨(bZ rfl), ⟨⟩⟩)
 exact .f (.f (.f (.f (.f (ct ⟨_, _, _, _, si h, rfl, rfl⟩ (tk [0] ⟨.p, ⟨⟩⟩ ⟨(bZ rfl), ⟨⟩⟩))))))
 rintro _ _ ⟨y1, y2, s3, l4, rfl, rfl, rfl⟩
 replace h := ve
 refine .d ⟨rfl, ⟨rfl, _, rfl, (sE h (fun uZ h => ?_) (fun uZ h => ?_))⟩⟩
 exact .t (.t (.t (eB h)))
 exact ⟨rfl, (.f ⟨rfl, _, rfl, (.f (.f (eB h)))⟩)⟩
def fq (a0 : ae) : Option (Bool) :=
 (if a0.ai = 4 then
 (if a0.aC = 0 then
 aX a0.aj >>= fun v3 =>
 (if v3 = true then
 some ((a0.ah.length : Int) == 0)
 else
 some false)
 else
 some false)
 else
 some false)
theorem kR {a0 : ae} {r : Bool} (h : fq a0 = some r) : ACall Tryz.prog 138 [.agg a0.lit] [] (fun res h => res = .bool r ∧ h = []) := by
 refine gq Tryz.func138 ?_
 unfold fq at h
 refine .d (.d ⟨rfl, ⟨rfl, _, rfl, (sE h (fun kS h => ?_) (fun kS h => ?_))⟩⟩)
 refine ⟨rfl, (.t ⟨rfl, _, rfl, (.t (.t (sE h (fun np h => ?_) (fun np h => ?_))))⟩)⟩
 refine ⟨rfl, (.t ⟨rfl, _, rfl, (.t (bk h fun v3 hv4 h => (aR (bQ hv4) (.t (sV h (fun Bc h => ?_) (fun Bc h => ?_))))))⟩)⟩
 exact ⟨rfl, (.t ⟨rfl, _, rfl, (.t (.t (.t (eB h))))⟩)⟩
 exact .f (.f (.f (.f (eB h))))
 exact avf
 exact .f (.f (.f (.f (.f (.f (.f (.f (.f (.f (.f (.f (eB h))))))))))))
def gQ (y8 : Int) (y9 : Int) (N3 : aq) (vm : List ae) : Option (Int × Int × aq × (List ae)) :=
 (if y8 = 7 then
 (if (vm.length : Int) = 2 then
 idx vm 0 >>= fun tf =>
 gQ tf.ai tf.aC tf.aj tf.ah
 else
 some (y8, y9, N3, vm))
 else
 some (y8, y9, N3, vm))
partial_fixpoint
def iC (a0 : ae) : Option (Bool) :=
 (
 gQ a0.ai a0.aC a0.aj a0.ah
 : Option (Int × Int × aq × (List ae))) >>= fun (y1, y2, s3, l4) =>
 (if y1 = 4 then
 some true
 else
 some (y1 == 8))
theorem pd {a0 : ae} {r : Bool} (h : iC a0 = some r) : ACall Tryz.prog 104 [.agg a0.lit] [] (fun res h => res = .bool r ∧ h = []) := by
 refine gq Tryz.func104 ?_
 unfold iC at h
 refine .d ?_
 obtain ⟨o5, ho6, ve⟩ := bd h
 replace h := ho6
 refine .cut (fun σ η => ∃ y1, ∃ y2, ∃ s3, ∃ l4, (y1, y2, s3, l4) = o5 ∧ σ = [(1, .aL 0 0 0 0)] ∧ η = [.row 0 4 1 29 (fun _ => [.int .i64 y1, .int .i64 y2, .str s3, sl 4 ae.cells l4])]) ?_ ?_
 refine le (gQ.partial_correctness  (motive := fun y8 y9 N3 vm IG => o5 = IG → aG _ _ [(1, .aL 0 0 0 0)] [.row 0 4 1 29 (fun _ => [.int .i64 y8, .int .i64 y9, .str N3, sl 4 ae.cells vm])]) ?_ a0.ai a0.aC a0.aj a0.ah o5 h rfl) (tk [0] ⟨.p, ⟨⟩⟩ ⟨(bZ rfl), ⟨⟩⟩)
 intro F13 Eo y8 y9 N3 vm IG h acA
 subst acA
 refine aG.round (.d (.d ⟨rfl, ⟨rfl, _, rfl, (sE h (fun uY h => ?_) (fun uY h => ?_))⟩⟩))
 refine ⟨rfl, (.t ⟨rfl, _, rfl, (.t (.t (.t (sE h (fun lI h => ?_) (fun lI h => ?_)))))⟩)⟩
 exact ⟨rfl, ⟨rfl, _, rfl, (bk h fun tf CN h => ⟨aA CN, _, (ax CN).trans (ae.au tf), ⟨rfl, _, fun _ => [.int .i64 tf.ai, .int .i64 tf.aC, .str tf.aj, sl 4 ae.cells tf.ah], rfl, bI rfl, (lg (Eo _ _ _ _ _ h rfl) (tk [0] ⟨.p, ⟨⟩⟩ ⟨(bZ rfl), ⟨⟩⟩))⟩⟩)⟩⟩
 exact ct ⟨_, _, _, _, si h, rfl, rfl⟩ (tk [0] ⟨.p, ⟨⟩⟩ ⟨(bZ rfl), ⟨⟩⟩)
 exact .f (.f (.f (.f (.f (ct ⟨_, _, _, _, si h, rfl, rfl⟩ (tk [0] ⟨.p, ⟨⟩⟩ ⟨(bZ rfl), ⟨⟩⟩))))))
 rintro _ _ ⟨y1, y2, s3, l4, rfl, rfl, rfl⟩
 replace h := ve
 refine .d ⟨rfl, ⟨rfl, _, rfl, (sE h (fun uZ h => ?_) (fun uZ h => ?_))⟩⟩
 exact .t (.t (.t (eB h)))
 exact ⟨rfl, (.f ⟨rfl, _, rfl, (.f (.f (eB h)))⟩)⟩
def dP (a0 : ae) (b69 : Bool) (y70 : Int) : Option (Bool × Bool) :=
 (if y70 < (a0.aj.length : Int) then
 (if b69 = true then
 nD a0.aj y70 [60, 63] >>= fun v75 =>
 dP a0 (!v75) (aS (y70 + 1))
 else
 dP a0 false (aS (y70 + 1)))
 else
 some ((a0.aC == 0), b69))
partial_fixpoint
def cu (a0 : ae) : Option (Bool × Bool) :=
 (
 (if a0.ai = 1 then
 tA a0.aC 0 1000000000 >>= fun v7 =>
 some (v7, (a0.aj == ([] : aq)))
 else
 (if a0.ai = 3 then
 tA a0.aC 0 2 >>= fun v10 =>
 some (v10, (a0.aj == ([] : aq)))
 else
 (if a0.ai = 9 then
 tA a0.aC 1 2 >>= fun o9 =>
 some (o9, (a0.aj == ([] : aq)))
 else
 (if a0.ai = 10 then
 tA a0.aC 1 15 >>= fun Gk =>
 some (Gk, (a0.aj == ([] : aq)))
 else
 (
 (if a0.ai = 2 then
 some (a0.ai == 2)
 else
 some (a0.ai == 47))
 : Option (Bool)) >>= fun b18 =>
 (if b18 = true then
 some ((a0.aC == 0), (decide ((a0.aj.length : Int) ≤ 400)))
 else
 (
 (if a0.ai = 4 then
 some (a0.ai == 4)
 else
 (if a0.ai = 8 then
 some (a0.ai == 8)
 else
 (if a0.ai = 17 then
 some (a0.ai == 17)
 else
 (if a0.ai = 18 then
 some (a0.ai == 18)
 else
 (if a0.ai = 20 then
 some (a0.ai == 20)
 else
 (if a0.ai = 40 then
 some (a0.ai == 40)
 else
 (if a0.ai = 44 then
 some (a0.ai == 44)
 else
 (if a0.ai = 49 then
 some (a0.ai == 49)
 else
 (if a0.ai = 50 then
 some (a0.ai == 50)
 else
 (if a0.ai = 51 then
 some (a0.ai == 51)
 else
 (if a0.ai = 52 then
 some (a0.ai == 52)
 else
 some (a0.ai == 53))))))))))))
 : Option (Bool)) >>= fun b24 =>
 (if b24 = true then
 ck a0.aj >>= fun v40 =>
 some ((a0.aC == 0), v40)
 else
 (if a0.ai = 22 then
 ck a0.aj >>= fun PE =>
 (if PE = true then
 some ((a0.aC == 0), true)
 else
 some ((a0.aC == 0), (a0.aj == ([115, 116, 97, 116, 105, 99] : aq))))
 else
 (if a0.ai = 54 then
 tA a0.aC 0 1 >>= fun v47 =>
 ck a0.aj >>= fun v49 =>
 some (v47, v49)
 else
 (if a0.ai = 55 then
 tA a0.aC 0 3 >>= fun v52 =>
 ck a0.aj >>= fun VI =>
 some (v52, VI)
 else
 (if a0.ai = 21 then
 kC a0.aj >>= fun (v57, v58) =>
 ck v57 >>= fun VJ =>
 (if VJ = true then
 ck v58 >>= fun KH =>
 some ((a0.aC == 0), KH)
 else
 (if v57 = ([115, 116, 97, 116, 105, 99] : aq) then
 ck v58 >>= fun v66 =>
 some ((a0.aC == 0), v66)
 else
 some ((a0.aC == 0), false)))
 else
 (if a0.ai = 31 then
 dP a0 (!(a0.aj == ([] : aq))) 0
 else
 some ((a0.aC == 0), (a0.aj == ([] : aq))))))))))))))
 : Option (Bool × Bool)) >>= fun (b1, b2) =>
 some (b1, b2)
theorem ji {a0 : ae} {r : Bool × Bool} (h : cu a0 = some r) : ACall Tryz.prog 75 [.agg a0.lit] [] (fun res h => res = .aV [.bool r.1, .bool r.2] ∧ h = []) := by
 refine gq Tryz.func75 ?_
 unfold cu at h
 refine .d (.d ⟨rfl, ⟨rfl, _, rfl, (.d ⟨rfl, ⟨rfl, _, rfl, ?_⟩⟩)⟩⟩)
 obtain ⟨o3, ho4, hk5⟩ := bd h
 replace h := ho4
 refine .cut (fun σ η => ∃ b1, ∃ b2, (b1, b2) = o3 ∧ σ = [(4, .bool b1), (5, .bool b2)] ∧ η = []) ?_ ?_
 refine .d ⟨rfl, ⟨rfl, _, rfl, (.d (sE h (fun vA h => ?_) (fun vA h => ?_)))⟩⟩
 exact ⟨rfl, ⟨rfl, _, rfl, (bk h fun v7 hv8 h => (aR (ns hv8) (ct ⟨_, _, si h, rfl, rfl⟩ (tk [] ⟨.b, .b, ⟨⟩⟩ ⟨⟩))))⟩⟩
 refine .d (sE h (fun C8 h => ?_) (fun C8 h => ?_))
 exact ⟨rfl, ⟨rfl, _, rfl, (bk h fun v10 Kd h => (aR (ns Kd) (ct ⟨_, _, si h, rfl, rfl⟩ (tk [] ⟨.b, .b, ⟨⟩⟩ ⟨⟩))))⟩⟩
 refine .d (sE h (fun oO h => ?_) (fun oO h => ?_))
 exact ⟨rfl, ⟨rfl, _, rfl, (bk h fun o9 qL h => (aR (ns qL) (ct ⟨_, _, si h, rfl, rfl⟩ (tk [] ⟨.b, .b, ⟨⟩⟩ ⟨⟩))))⟩⟩
 refine .d (sE h (fun lI h => ?_) (fun lI h => ?_))
 exact ⟨rfl, ⟨rfl, _, rfl, (bk h fun Gk Ke h => (aR (ns Ke) (ct ⟨_, _, si h, rfl, rfl⟩ (tk [] ⟨.b, .b, ⟨⟩⟩ ⟨⟩))))⟩⟩
 obtain ⟨o19, arY, arZ⟩ := bd h
 replace h := arY
 refine .cut (fun σ η => ∃ b18, b18 = o19 ∧ σ = [(1, .aL 0 0 0 0), (4, .bool (a0.aC == 0)), (5, .bool (a0.aj == ([] : aq))), (16, .int .i64 a0.ai), (37, .bool b18)] ∧ η = [.row 0 4 1 29 (fun _ => a0.lit)]) ?_ ?_
 refine .d (sE h (fun u5 h => ?_) (fun u5 h => ?_))
 exact auI
 exact auI
 rintro _ _ ⟨b18, rfl, rfl, rfl⟩
 replace h := arZ
 refine sV h (fun xU h => ?_) (fun xU h => ?_)
 exact ⟨rfl, ⟨rfl, _, rfl, (ct ⟨_, _, si h, rfl, rfl⟩ (tk [] ⟨.b, .b, ⟨⟩⟩ ⟨⟩))⟩⟩
 obtain ⟨o25, ar0, ar1⟩ := bd h
 replace h := ar0
 refine .cut (fun σ η => ∃ b24, b24 = o25 ∧ σ = [(1, .aL 0 0 0 0), (4, .bool (a0.aC == 0)), (5, .bool (a0.aj == ([] : aq))), (16, .int .i64 a0.ai), (44, .bool b24)] ∧ η = [.row 0 4 1 29 (fun _ => a0.lit)]) ?_ ?_
 refine .d (sE h (fun JX h => ?_) (fun JX h => ?_))
 exact auI
 refine .d (sE h (fun zJ h => ?_) (fun zJ h => ?_))
 exact auI
 refine .d (sE h (fun Lf h => ?_) (fun Lf h => ?_))
 exact auI
 refine .d (sE h (fun aaH h => ?_) (fun aaH h => ?_))
 exact auI
 refine .d (sE h (fun zK h => ?_) (fun zK h => ?_))
 exact auI
 refine .d (sE h (fun Dm h => ?_) (fun Dm h => ?_))
 exact auI
 refine .d (sE h (fun wc h => ?_) (fun wc h => ?_))
 exact auI
 refine .d (sE h (fun JY h => ?_) (fun JY h => ?_))
 exact auI
 refine .d (sE h (fun aaI h => ?_) (fun aaI h => ?_))
 exact auI
 refine .d (sE h (fun zL h => ?_) (fun zL h => ?_))
 exact auI
 refine .d (sE h (fun zQ h => ?_) (fun zQ h => ?_))
 exact auI
 exact auI
 rintro _ _ ⟨b24, rfl, rfl, rfl⟩
 replace h := ar1
 refine sV h (fun wh h => ?_) (fun wh h => ?_)
 exact ⟨rfl, ⟨rfl, _, rfl, (bk h fun v40 KT h => (aR (dV KT) (ct ⟨_, _, si h, rfl, rfl⟩ (tk [] ⟨.b, .b, ⟨⟩⟩ ⟨⟩))))⟩⟩
 refine .d (sE h (fun KU h => ?_) (fun KU h => ?_))
 refine ⟨rfl, ⟨rfl, _, rfl, (bk h fun PE aax h => (aR (dV aax) (sV h (fun aay h => ?_) (fun aay h => ?_))))⟩⟩
 exact .t (.t (.t (ct ⟨_, _, si h, rfl, rfl⟩ (tk [] ⟨.b, .b, ⟨⟩⟩ ⟨⟩))))
 exact ⟨rfl, (.f ⟨rfl, _, rfl, (.f (.f (ct ⟨_, _, si h, rfl, rfl⟩ (tk [] ⟨.b, .b, ⟨⟩⟩ ⟨⟩))))⟩)⟩
 refine .d (sE h (fun ar2 h => ?_) (fun ar2 h => ?_))
 exact .d ⟨rfl, ⟨rfl, _, rfl, (bk h fun v47 ar3 h => (aR (ns ar3) ⟨rfl, ⟨rfl, _, rfl, (bk h fun v49 ar4 h => (aR (dV ar4) (ct ⟨_, _, si h, rfl, rfl⟩ (tk [] ⟨.b, .b, ⟨⟩⟩ ⟨⟩))))⟩⟩))⟩⟩
 refine .d (sE h (fun Jb h => ?_) (fun Jb h => ?_))
 exact .d ⟨rfl, ⟨rfl, _, rfl, (bk h fun v52 ar5 h => (aR (ns ar5) ⟨rfl, ⟨rfl, _, rfl, (bk h fun VI abN h => (aR (dV abN) (ct ⟨_, _, si h, rfl, rfl⟩ (tk [] ⟨.b, .b, ⟨⟩⟩ ⟨⟩))))⟩⟩))⟩⟩
 refine .d (sE h (fun aaz h => ?_) (fun aaz h => ?_))
 refine .d ⟨rfl, ⟨rfl, _, rfl, ?_⟩⟩
 obtain ⟨⟨v57, v58⟩, ar6, h⟩ := bd h
 refine aR (yu ar6) (bk h fun VJ abO h => (aR (dV abO) (sV h (fun Je h => ?_) (fun Je h => ?_))))
 exact .t (.t (.t (.t (bk h fun KH KV h => (aR (dV KV) (.t (ct ⟨_, _, si h, rfl, rfl⟩ (tk [] ⟨.b, .b, ⟨⟩⟩ ⟨⟩))))))))
 refine .f (.f (sE h (fun Jf h => ?_) (fun Jf h => ?_)))
 exact .t (bk h fun v66 ar7 h => (aR (dV ar7) (.t (ct ⟨_, _, si h, rfl, rfl⟩ (tk [] ⟨.b, .b, ⟨⟩⟩ ⟨⟩)))))
 exact .f (.f (ct ⟨_, _, si h, rfl, rfl⟩ (tk [] ⟨.b, .b, ⟨⟩⟩ ⟨⟩)))
 refine .d (sE h (fun ar8 h => ?_) (fun ar8 h => ?_))
 refine .d ⟨rfl, ⟨rfl, _, rfl, (.d ?_)⟩⟩
 refine le (dP.partial_correctness a0 (motive := fun b69 y70 o77 => o3 = o77 → aG _ _ [(1, .aL 0 0 0 0), (4, .bool (a0.aC == 0)), (5, .bool b69), (8, .int .i64 y70)] [.row 0 4 1 29 (fun _ => a0.lit)]) ?_ (!(a0.aj == ([] : aq))) 0 o3 h rfl) (tk [0] ⟨.p, .b, .b, .i, ⟨⟩⟩ ⟨(bZ rfl), ⟨⟩⟩)
 intro F72 aoK b69 y70 o77 h ar9
 subst ar9
 refine aG.round (.d (.d ⟨rfl, ⟨rfl, _, rfl, (sD h (fun aaB h => ?_) (fun aaB h => ?_))⟩⟩))
 refine .d (sV h (fun aaC h => ?_) (fun aaC h => ?_))
 exact ⟨rfl, (.t ⟨rfl, _, rfl, (.t (.t (bk h fun v75 asa h => (aR (Er asa) (.t (.t (lg (aoK _ _ _ h rfl) (tk [0] ⟨.p, .b, .b, .i, ⟨⟩⟩ ⟨(bZ rfl), ⟨⟩⟩))))))))⟩)⟩
 exact .f (.f (.f (.f (.f (lg (aoK _ _ _ h rfl) (tk [0] ⟨.p, .b, .b, .i, ⟨⟩⟩ ⟨(bZ rfl), ⟨⟩⟩))))))
 exact ct ⟨_, _, si h, rfl, rfl⟩ (tk [] ⟨.b, .b, ⟨⟩⟩ ⟨⟩)
 exact ct ⟨_, _, si h, rfl, rfl⟩ (tk [] ⟨.b, .b, ⟨⟩⟩ ⟨⟩)
 rintro _ _ ⟨b1, b2, rfl, rfl, rfl⟩
 replace h := hk5
 refine .d ?_
 obtain rfl := si h
 exact en [] ⟨rfl, rfl⟩ (.bu ⟨.b, .b, ⟨⟩⟩) ⟨⟩
end Go.Am
