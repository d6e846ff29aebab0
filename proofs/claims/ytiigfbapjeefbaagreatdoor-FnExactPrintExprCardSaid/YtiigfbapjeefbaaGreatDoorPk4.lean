/- Texts of the proof, joined and shortened. -/
import Derived.Test.YtiigfbapjeefbaaGreatDoorPk3
import Derived.Test.YtiigfbapjeefbaaGreatDoorProg
set_option linter.unusedVariables false
set_option linter.unusedSimpArgs false
namespace Go.Am
open Go Go.RowKit
def look (l : List (Nat × TI)) (t : Nat) : TI := match l with
 | [] => .other
 | (k, ti) :: r => match Nat.beq t k with
  | true => ti
  | false => look r t
def p9 (l : List (Nat × TI)) : lq := ⟨look l⟩
def fA : List Value → List PV → Bool
 | [], [] => true
 | .int k n :: r, .int k' n' :: r' => mC k k' && n == n' && fA r r'
 | .bool b :: r, .bool b' :: r' => b == b' && fA r r'
 | .string s :: r, .str s' :: r' => s.data.toList == s' && fA r r'
 | .slice none 0 0 :: r, .bf :: r' => fA r r'
 | .pointer none :: r, .dt :: r' => fA r r'
 | _, _ => false
def nO (P : Program) (t n : Nat) : Bool := match P.info? t with
 | some i => Nat.beq i.size n
 | none => false
def mZ (P : Program) : List Field → List (Nat × Nat × Bool) → Bool
 | [], [] => true
 | f :: r, (off, size, ag) :: r' => Nat.beq f.offset off && nO P f.type size && Nat.blt 0 size && (match P.underlying f.type with | some d => ag == vm d | none => false) && mZ P r r'
 | _, _ => false
def zB : Value → PV → Bool
 | .int k n, .int k' n' => mC k k' && n == n'
 | .bool b, .bool b' => b == b'
 | .string s, .str s' => s.data.toList == s'
 | _, _ => false
theorem zC {v : Value} {z : PV} (h : zB v z = true) : mD z v ∧ ir z = true ∧ storable z = true := by
 unfold zB at h
 split at h
 ·simp only [As, beq_iff_eq] at h
  obtain ⟨h1, rfl⟩ := h
  obtain rfl := dq h1
  exact ⟨rfl, rfl, rfl⟩
 ·rw [beq_iff_eq] at h; subst h; exact ⟨rfl, rfl, rfl⟩
 ·rw [beq_iff_eq] at h; subst h; exact ⟨rfl, rfl, rfl⟩
 ·cases h
def kR (P : Program) (t : Nat) : TI → Bool
 | .int k => (match P.underlying t with | some (.int k') => mC k k' | _ => false) && nO P t 1
 | .bool => (match P.underlying t with | some .bool => true | _ => false) && nO P t 1
 | .str => (match P.underlying t with | some .string => true | _ => false) && nO P t 1
 | .ptr e => (match P.underlying t with | some (.pointer e') => Nat.beq e e' | _ => false) && nO P t 1
 | .slice e sz KH z => (match P.underlying t with | some (.slice e') => Nat.beq e e' | _ => false) && nO P t 1 && Nat.blt 0 sz && Nat.blt 0 KH &&
   (match P.info? e with
    | some i => Nat.beq i.size sz && Nat.beq i.bytes KH && (match i.zero with | some zv => Nat.beq zv.cells.size sz && fA zv.cells.toList z | none => false)
    | none => false)
 | .struct sz fl z => (!(tJ z) || yY P t z) && (match P.underlying t with | some (.struct fs) => mZ P fs.toList fl | _ => false) &&
   (match P.info? t with
    | some i => Nat.beq i.size sz && (match i.zero with | some zv => Nat.beq zv.cells.size sz && fA zv.cells.toList z | none => false)
    | none => false)
 | .map k e z => (match P.underlying t with | some (.map k' e') => Nat.beq k k' && Nat.beq e e' | _ => false) && nO P t 1 && (match P.info? e with
   | some i => (match i.zero with | some zv => zB zv z | none => false)
   | none => false)
 | .other => true
def zeroAt (P : Program) (t : Nat) (z : List PV) (n : Nat) : Bool := match P.info? t with
 | some i => match i.zero with
  | some zv => Nat.beq zv.cells.size n && Nat.beq z.length n && fA zv.cells.toList z
  | none => false
 | none => false
def PY (P : Program) (t : Nat) (ti : TI) : Bool := kR P t ti && (match vn ti with | some z => zeroAt P t z (jj ti) | none => true)
theorem pd : ∀ (vs : List Value) (z : List PV), fA vs z = true → vs.length = z.length ∧ ∀ (j : Nat) (u : Value), vs[j]? = some u → ∃ pv : PV, z[j]? = some pv ∧ u.oneCell' = true ∧ ∀ S w, aE S w pv u := by
 intro vs
 induction vs with
 | nil =>
  intro z hz
  cases z with
  | nil => exact ⟨rfl, fun j u hj => by simp at hj⟩
  | cons a r => simp [fA] at hz
 | cons v vs ih =>
  intro z hz
  cases z with
  | nil => cases v <;> simp [fA] at hz
  | cons p z =>
   have step : ∀ (hz' : fA vs z = true) (OT : v.oneCell' = true) (hp : ∀ S w, aE S w p v), (v :: vs).length = (p :: z).length ∧ ∀ (j : Nat) (u : Value), (v :: vs)[j]? = some u → ∃ pv : PV, (p :: z)[j]? = some pv ∧ u.oneCell' = true ∧ ∀ S w, aE S w pv u := by
    intro hz' OT hp
    obtain ⟨h1, h2⟩ := ih z hz'
    refine ⟨by simp [h1], fun j u hj => ?_⟩
    cases j with
    | zero => simp at hj; subst hj; exact ⟨p, rfl, OT, hp⟩
    | succ j => simp at hj; obtain ⟨pv, q1, q2⟩ := h2 j u hj; exact ⟨pv, by simpa using q1, q2⟩
   cases v with
   | int k n =>
    cases p <;> simp [fA] at hz
    obtain ⟨⟨hk, hn⟩, hz⟩ := hz
    have := dq hk
    subst this hn
    exact step hz rfl fun S w => .int _ _
   | bool b =>
    cases p <;> simp [fA] at hz
    obtain ⟨hb, hz⟩ := hz
    subst hb
    exact step hz rfl fun S w => .bool _
   | string s =>
    cases p <;> simp [fA] at hz
    obtain ⟨hs, hz⟩ := hz
    subst hs
    exact step hz rfl fun S w => aE.str _
   | slice a n c =>
    cases a with
    | some a => cases p <;> simp [fA] at hz
    | none =>
     cases n with
     | succ n => cases p <;> simp [fA] at hz
     | zero =>
      cases c with
      | succ c => cases p <;> simp [fA] at hz
      | zero =>
       cases p <;> simp [fA] at hz
       exact step hz rfl fun S w => .bf
   | pointer a =>
    cases a with
    | some a => cases p <;> simp [fA] at hz
    | none =>
     cases p <;> simp [fA] at hz
     exact step hz rfl fun S w => .dt
   | _ => cases p <;> simp [fA] at hz
theorem iY {P : Program} {t n : Nat} (h : nO P t n = true) : ∃ i, P.info? t = some i ∧ i.size = n := by
 unfold nO at h
 split at h
 ·rename_i i hi; exact ⟨i, hi, No h⟩
 ·cases h
theorem qa {P : Program} : ∀ (fs : List Field) (fl : List (Nat × Nat × Bool)), mZ P fs fl = true → fl.length = fs.length ∧
  ∀ (k : Nat) (off size : Nat) (ag : Bool), fl[k]? = some (off, size, ag) → ∃ f j d, fs[k]? = some f ∧ f.offset = off ∧ P.info? f.type = some j ∧ j.size = size ∧ 0 < size ∧ P.underlying f.type = some d ∧ ag = vm d
 | [], [], _ => ⟨rfl, fun k off size ag hk => by simp at hk⟩
 | [], _ :: _, h => by simp [mZ] at h
 | _ :: _, [], h => by simp [mZ] at h
 | f :: r, (off, size, ag) :: r', h => by
  simp only [mZ, As] at h
  obtain ⟨⟨⟨⟨h1, h2⟩, h3⟩, h4⟩, h5⟩ := h
  obtain ⟨q1, q2⟩ := qa r r' h5
  refine ⟨by simp [q1], fun k PZ amG ag' hk => ?_⟩
  cases k with
  | zero =>
   simp at hk
   obtain ⟨rfl, rfl, rfl⟩ := hk
   obtain ⟨j, hj, AU⟩ := iY h2
   cases hu : P.underlying f.type with
   | none => rw [hu] at h4; cases h4
   | some d =>
    rw [hu] at h4
    exact ⟨f, j, d, rfl, No h1, hj, AU, by simpa using h3, hu, by simpa using h4⟩
  | succ k => exact q2 k PZ amG ag' (by simpa using hk)
theorem By : ∀ (l : List (Nat × TI)) (t : Nat) (ti : TI), look l t = ti → ti = .other ∨ (t, ti) ∈ l
 | [], t, ti, h => .inl h.symm
 | (k, x) :: r, t, ti, h => by
  unfold look at h
  split at h
  ·rename_i hb
   have := No hb
   subst this h
   exact .inr atv
  ·rcases By r t ti h with h1 | h1
   ·exact .inl h1
   ·exact .inr (by simp [h1])
theorem amH {P : Program} {l : List (Nat × TI)} (hl : l.all (fun p => PY P p.1 p.2) = true) : cd P (p9 l) := by
 have amI : ∀ t ti, (p9 l).get t = ti → ti ≠ .other → PY P t ti = true := fun t ti ht hn => by
  rcases By l t ti ht with h1 | h1
  ·exact (hn h1).elim
  ·exact (aqW.1 hl) _ h1
 have all : ∀ t ti, (p9 l).get t = ti → ti ≠ .other → kR P t ti = true := fun t ti ht hn => by
  have := amI t ti ht hn
  simp only [PY, As] at this
  exact this.1
 have zero : ∀ t z, vn ((p9 l).get t) = some z → ∃ i zv, P.info? t = some i ∧ i.zero = some zv ∧ zv.cells.size = jj ((p9 l).get t) ∧ z.length = jj ((p9 l).get t) ∧
   ∀ (j : Nat) (u : Value), zv.cells[j]? = some u → ∃ pv : PV, z[j]? = some pv ∧ u.oneCell' = true ∧ ∀ S w, aE S w pv u := fun t z hz => by
  have := amI t _ rfl (by intro h0; rw [h0] at hz; cases hz)
  simp only [PY, As] at this
  have := this.2
  rw [hz] at this
  simp only [zeroAt] at this
  split at this
  ·rename_i i hi
   split at this
   ·rename_i zv hzv
    simp only [As] at this
    obtain ⟨⟨h1, h2⟩, h3⟩ := this
    obtain ⟨_, r2⟩ := pd _ _ h3
    exact ⟨i, zv, hi, hzv, No h1, No h2, fun j u hj => r2 j u atC⟩
   ·cases this
  ·cases this
 have one : ∀ t, jj ((p9 l).get t) = 1 → (∀ sz fl z, (p9 l).get t ≠ .struct sz fl z) → ∃ i, P.info? t = some i ∧ i.size = 1 := fun t h1 h2 => by
  cases ht : (p9 l).get t with
  | other => rw [ht] at h1; cases h1
  | struct sz fl z => exact (h2 _ _ _ ht).elim
  | int k => have := all t _ ht atv; simp only [kR, As] at this; exact iY this.2
  | bool => have := all t _ ht atv; simp only [kR, As] at this; exact iY this.2
  | str => have := all t _ ht atv; simp only [kR, As] at this; exact iY this.2
  | ptr e => have := all t _ ht atv; simp only [kR, As] at this; exact iY this.2
  | map k e z => have := all t _ ht atv; simp only [kR, As] at this; exact iY this.1.2
  | slice e sz b z => have := all t _ ht atv; simp only [kR, As] at this; exact iY this.1.1.1.2
 refine ⟨fun t sz fl z ht hz => by
   have := all t _ ht atv
   simp only [kR, As, arC, arE] at this
   rcases this.1.1 with h | h
   ·rw [hz] at h; cases h
   ·exact h, fun t k ht => ?_, fun t ht => ?_, fun t ht => ?_, fun t e ht => ?_, fun t e sz b z ht => ?_, fun t k e z ht => ?_, fun t e sz b z ht => ?_, one, zero, fun t sz fl z ht => ?_⟩
 ·have := all t _ ht atv
  simp only [kR, As] at this
  have := this.1
  split at this
  ·rename_i k' hu; rw [hu, dq this]
  ·cases this
 ·have := all t _ ht atv
  simp only [kR, As] at this
  have := this.1
  split at this
  ·assumption
  ·cases this
 ·have := all t _ ht atv
  simp only [kR, As] at this
  have := this.1
  split at this
  ·assumption
  ·cases this
 ·have := all t _ ht atv
  simp only [kR, As] at this
  have := this.1
  split at this
  ·rename_i e' hu; rw [hu, No this]
  ·cases this
 ·have := all t _ ht atv
  simp only [kR, As] at this
  obtain ⟨⟨⟨⟨h1, h2⟩, h3⟩, h4⟩, h5⟩ := this
  refine ⟨?_, by simpa using h3, ?_⟩
  ·split at h1
   ·rename_i e' hu; rw [hu, No h1]
   ·cases h1
  ·split at h5
   ·rename_i i hi
    simp only [As] at h5
    obtain ⟨⟨q1, q2⟩, q3⟩ := h5
    split at q3
    ·rename_i zv hz
     simp only [As] at q3
     obtain ⟨r1, r2⟩ := pd _ _ q3.2
     have e1 := No q3.1
     refine ⟨i, zv, hi, No q1, No q2, hz, e1, ?_, fun j u hj => r2 j u atC⟩
     rw [← r1, ← e1]; simp
    ·cases q3
   ·cases h5
 ·have := all t _ ht atv
  simp only [kR, As] at this
  obtain ⟨⟨h1, _⟩, h3⟩ := this
  refine ⟨?_, ?_⟩
  ·split at h1
   ·rename_i k' e' hu
    simp only [As] at h1
    rw [hu, No h1.1, No h1.2]
   ·cases h1
  ·split at h3
   ·rename_i i hi
    split at h3
    ·rename_i zv hz
     exact ⟨i, zv, hi, hz, zC h3⟩
    ·cases h3
   ·cases h3
 ·have := all t _ ht atv
  simp only [kR, As] at this
  simpa using this.1.2
 ·have := all t _ ht atv
  simp only [kR, As] at this
  obtain ⟨⟨_, h1⟩, h2⟩ := this
  split at h1
  ·rename_i fs hu
   obtain ⟨q1, q2⟩ := qa _ _ h1
   split at h2
   ·rename_i i hi
    simp only [As] at h2
    obtain ⟨r1, r2⟩ := h2
    split at r2
    ·rename_i zv hz
     simp only [As] at r2
     obtain ⟨s1, s2⟩ := pd _ _ r2.2
     have e1 := No r2.1
     refine ⟨fs, i, hu, hi, No r1, by simpa using q1, ⟨zv, hz, e1, by rw [← s1, ← e1]; simp, fun j u hj => s2 j u atC⟩, fun k off size ag hk => ?_⟩
     obtain ⟨f, j, d, t1, t2⟩ := q2 k off size ag hk
     exact ⟨f, j, d, by simpa using t1, t2⟩
    ·cases r2
   ·cases h2
  ·cases h1
section
variable {h η : List ak} {k : List Nat}
theorem Fz.int_eq {k' : IntKind} {n n' : Int} (he : n = n') : Fz h η k (.int k' n) (.int k' n') := by subst he; exact .int _ _
theorem Fz.Er {b b' : Bool} (he : b = b') : Fz h η k (.bool b) (.bool b') := by subst he; exact .bool _
theorem Fz.yV {s s' : List UInt8} (he : s = s') : Fz h η k (.str s) (.str s') := by subst he; exact .str _
theorem Fz.Mf {id g sz n off len bs s9 : Nat} {e : TypeId} {f f' : Nat → List PV} (hk : id ∉ k) (ho : h[id]? = some (ak.row g sz n e f)) (h1 : sz = bs) (h2 : len = s9) (hp : ∀ i, i < s9 → (f' i).all bZ = true)
  (hf : ∀ i, i < s9 → um h η k (f (off + i)) (f' i)) : Fz h η k (.own id g off len) (.eu bs s9 f') := by
 subst h1 h2
 exact .frz id g sz n off len e f f' hk ho (fun i hi => (um.get _ _ (hf i hi)).1) (fun i j pv hi hj => (aqW.1 (hp i hi)) pv (arh hj)) (fun i j pv eg hi h1 h2 _ => (um.get _ _ (hf i hi)).2 j pv eg h1 h2)
theorem Fz.amJ {cs sJ : List PV} (hl : um h η k cs sJ) : Fz h η k (.agg cs) (.agg sJ) := .agg _ _ (um.get _ _ hl).1 (um.get _ _ hl).2
theorem Fz.bq {cs sJ : List PV} (hl : um h η k cs sJ) : Fz h η k (.aU cs) (.aU sJ) := .aU _ _ (um.get _ _ hl).1 (um.get _ _ hl).2
theorem aaD {α : Type} {i l : Nat} {a b : α} (pG : i < l) : (bif Nat.blt i l then a else b) = a := by
 have hb : Nat.blt i l = true := by simpa using pG
 rw [hb]; rfl
theorem aaE {α : Type} {i l : Nat} {a b : α} (pG : l ≤ i) : (bif Nat.blt i l then a else b) = b := by
 have hb : Nat.blt i l = false := by
  cases hh : Nat.blt i l with
  | true =>
   have : i < l := by simpa using hh
   omega
  | false => rfl
 rw [hb]; rfl
end
theorem Oj {x : Int} (h1 : -9223372036854775808 ≤ x) (h2 : x ≤ 9223372036854775807) : IntKind.i64.wrap x = x := by rw [IntKind.wrap_i64]; omega
theorem ACall.amK {P : Program} {f : FuncId} {args jP : List PV} {R : PV → List ak → Prop} (hA : ACall P f jP [] R) (h : List ak) (hz : um h [] [] args jP) (hn : jP.all kg = true)
  (Es : ∀ r0 h0, R r0 h0 → Et r0 = true ∧ ∀ o ∈ h0, Mg o) :
  ACall P f args h (fun res h' => ∃ r0 h0, R r0 h0 ∧ res = pe h.length r0 ∧ h' = h ++ h0.map (fC h.length)) := by
 obtain ⟨h1, h2⟩ := um.get _ _ hz
 exact hA.snap h h1 (fun j pv eg q1 q2 => ⟨h2 j pv eg q1 q2, (aqW.1 hn) eg (arh q2)⟩) (fun r0 h0 hR => ⟨(Es r0 h0 hR).1, fun o ho => ((Es r0 h0 hR).2 o ho).p⟩)
theorem Fz.snap {h : List ak} {id g sz n off len bs s9 : Nat} {e : TypeId} {f f' : Nat → List PV} (ho : h[id]? = some (ak.row g sz n e f)) (h1 : sz = bs) (h2 : len = s9) (hp : ∀ i, i < s9 → (f' i).all bZ = true)
  (hf : ∀ i, i < s9 → um h [] [] (f (off + i)) (f' i)) : Fz h [] [] (.own id g off len) (.eu bs s9 f') := .Mf atv ho h1 h2 hp hf
theorem ACall.heq {P : Program} {f : FuncId} {args : List PV} {h h2 : List ak} {R : PV → List ak → Prop} (hA : ACall P f args h R) (he : cM h2 h) : ACall P f args h2 R := by
 refine ⟨hA.1, fun w vs μ S hH hM fv ha => ?_⟩
 obtain ⟨hH2, hM2⟩ := he.core ⟨hH, hM⟩
 refine (hA.2 w vs μ S hH2 hM2 fv (fun j pv hj => ?_)).mono ?_
 ·obtain ⟨v, h1, h3⟩ := ha j pv hj
  exact ⟨v, h1, he.Fq h3⟩
 ·rintro e w' ⟨v, res, h', μ', S', rfl, hr, hv, hH', hM', hF⟩
  refine ⟨v, res, h', μ', S', rfl, hr, hv, hH', hM', ⟨by rw [he.len]; exact hF.len, fun b hb ho => hF.blocks b hb (fun hx => ho (he.sU hx)), hF.sub, fun b hb => ?_, fun b hb => ?_, hF.size, hF.os, hF.tape, hF.output, fun id g sz n e f hid => ?_, fun id hid => hF.dead id (he.getD hid), fun b k ho hc => hF.bp b k (he.owned ho) hc, fun id g sz n e f b base hid hm kY => ?_, fun b x y z hx kY => hF.p8 b x y z (he.hid hx) kY⟩⟩
  ·rcases hF.new b hb with h1 | h1 | h1
   ·exact .inl h1
   ·exact .inr (.inl (he.sU h1))
   ·exact .inr (.inr h1)
  ·rcases hF.own b hb with h1 | h1
   ·exact .inl (he.sU h1)
   ·exact .inr h1
  ·obtain ⟨f', h1, _⟩ := he.get hid
   exact hF.vK id g sz n e f' h1
  ·obtain ⟨f', h1, _⟩ := he.get hid
   exact hF.maps id g sz n e f' b base h1 hm kY
abbrev ar := List UInt8
abbrev aT (x : Int) : Int := IntKind.i64.wrap x
theorem bind_some {α β : Type} {x : Option α} {f : α → Option β} {r : β} (h : (x >>= f) = some r) : ∃ a, x = some a ∧ f a = some r := by
 cases x with
 | none => cases h
 | some a => exact ⟨a, rfl, h⟩
def idx {α : Type} [Inhabited α] (l : List α) (i : Int) : Option α := if 0 ≤ i ∧ i < (l.length : Int) then some (l.getD i.toNat default) else none
def nE (s : ar) (i : Int) : Option UInt8 := if 0 ≤ i ∧ i < (s.length : Int) then some (s.getD i.toNat 0) else none
def E8 (s : ar) (lo hi : Int) : Option ar := if 0 ≤ lo ∧ lo ≤ hi ∧ hi ≤ (s.length : Int) then some ((s.take hi.toNat).drop lo.toNat) else none
def DU (s : ar) (lo : Int) : Option ar := if 0 ≤ lo ∧ lo ≤ (s.length : Int) then some (s.drop lo.toNat) else none
def sto (s : ar) (hi : Int) : Option ar := if 0 ≤ hi ∧ hi ≤ (s.length : Int) then some (s.take hi.toNat) else none
def jK {α : Type} (s : List α) (lo : Int) : Option (List α) := if 0 ≤ lo ∧ lo ≤ (s.length : Int) then some (s.drop lo.toNat) else none
def G4 {α : Type} (s : List α) (hi : Int) : Option (List α) := if 0 ≤ hi ∧ hi ≤ (s.length : Int) then some (s.take hi.toNat) else none
def aH (a b : ar) : Option ar := if a.length + b.length ≤ 4611686018427387904 then some (a ++ b) else none
def nD {α : Type} (bytes : Nat) (a b : List α) : Option (List α) := if (a.length + b.length) * bytes ≤ 140737488355328 then some (a ++ b) else none
def xJ {α : Type} [Inhabited α] (bytes : Nat) (n m : Int) : Option (List α) := if 0 ≤ n ∧ n ≤ m ∧ m ≤ 4611686018427387904 ∧ m.toNat * bytes ≤ 140737488355328 then some (List.replicate n.toNat default) else none
theorem bx {α : Type} {c : Prop} [Decidable c] {x r : α} (h : (if c then some x else none) = some r) : c ∧ x = r := by
 by_cases hc : c
 ·rw [if_pos hc] at h; exact ⟨hc, arG h⟩
 ·rw [if_neg hc] at h; cases h
section
variable {α : Type} {x y r : α}
theorem amL {p : Prop} [Decidable p] (hb : decide p = true) (h : (if p then x else y) = r) : x = r := by rw [if_pos (of_decide_eq_true hb)] at h; exact h
theorem amM {p : Prop} [Decidable p] (hb : decide p = false) (h : (if p then x else y) = r) : y = r := by rw [if_neg (of_decide_eq_false hb)] at h; exact h
theorem Mh {β : Type} [BEq β] [LawfulBEq β] {a b : β} [Decidable (a = b)] (hb : (a == b) = true) (h : (if a = b then x else y) = r) : x = r := by rw [if_pos (eq_of_beq hb)] at h; exact h
theorem Mi {β : Type} [BEq β] [LawfulBEq β] {a b : β} [Decidable (a = b)] (hb : (a == b) = false) (h : (if a = b then x else y) = r) : y = r := by rw [if_neg (ne_of_beq_false hb)] at h; exact h
theorem amN {β : Type} [BEq β] [LawfulBEq β] {a b : β} [Decidable (a = b)] (hb : (a != b) = true) (h : (if a = b then x else y) = r) : y = r := Mi (by simpa [bne] using hb) h
theorem amO {β : Type} [BEq β] [LawfulBEq β] {a b : β} [Decidable (a = b)] (hb : (a != b) = false) (h : (if a = b then x else y) = r) : x = r := Mh (by simpa [bne] using hb) h
theorem UO {b : Bool} (hb : b = true) (h : (if b = true then x else y) = r) : x = r := by rw [if_pos hb] at h; exact h
theorem UP {b : Bool} (hb : b = false) (h : (if b = true then x else y) = r) : y = r := by rw [if_neg (by rw [hb]; decide)] at h; exact h
end
theorem UQ {b : Bool} (h : (!b) = false) : b = true := by cases b <;> simp_all
theorem UR {b : Bool} (h : (!b) = true) : b = false := by cases b <;> simp_all
theorem Mj {T F : Prop} (h : T) : eA true T F := .mk (fun _ => h) (fun h => by cases h)
theorem Mk {T F : Prop} (h : F) : eA false T F := .mk (fun h => by cases h) (fun _ => h)
theorem GM {b : Bool} {T F : Prop} (hb : b = true) (h : T) : eA b T F := .mk (fun _ => h) (fun h => by rw [hb] at h; cases h)
section
variable {α : Type} {l m : List α} {lo hi : Int}
theorem gU (h : jK l lo = some m) : 0 ≤ lo ∧ lo ≤ (l.length : Int) := (bx h).1
theorem fK (h : jK l lo = some m) : m.length = l.length - lo.toNat := by rw [← (bx h).2]; simp
theorem yA (h : G4 l hi = some m) : 0 ≤ hi ∧ hi ≤ (l.length : Int) := (bx h).1
theorem jB {b : Nat} {q : List α} (h : nD b l m = some q) : (l.length + m.length) * b ≤ 140737488355328 := (bx h).1
theorem fP {b : Nat} {q : List α} (h : nD b l m = some q) : q.length = l.length + m.length := by rw [← (bx h).2]; simp
theorem uz (h : G4 l hi = some m) : m.length = hi.toNat := by
 have hb := yA h
 rw [← (bx h).2]; simp; omega
end
def row {α : Type} (c : α → List PV) (l : List α) : Nat → List PV := fun i => (l.map c).getD i []
abbrev sl {α : Type} (sz : Nat) (c : α → List PV) (l : List α) : PV := .eu sz l.length (row c l)
def cI (x : Int) : List PV := [.int .i64 x]
def aaF (k : IntKind) (x : Int) : List PV := [.int k x]
def cB (x : UInt8) : List PV := [.int .u8 x.toNat]
def cT (x : Bool) : List PV := [.bool x]
def cS (x : ar) : List PV := [.str x]
def cL {α : Type} (sz : Nat) (c : α → List PV) (x : List α) : List PV := [sl sz c x]
section
variable {α : Type} {c : α → List PV} {l m : List α} {x x' : α} {i lo hi : Int}
theorem P0 (x : Int) : (cI x).all bZ = true := rfl
theorem GN (k : IntKind) (x : Int) : (aaF k x).all bZ = true := rfl
theorem P1 (x : UInt8) : (cB x).all bZ = true := rfl
theorem P2 (x : Bool) : (cT x).all bZ = true := rfl
theorem P3 (x : ar) : (cS x).all bZ = true := rfl
theorem P4 {β : Type} (sz : Nat) (d : β → List PV) (x : List β) : (cL sz d x).all bZ = true := rfl
theorem Eu (x : Int) : cB (UInt8.ofNat (IntKind.u8.wrap x).toNat) = [.int .u8 (IntKind.u8.wrap x)] := by
 have h : 0 ≤ IntKind.u8.wrap x ∧ IntKind.u8.wrap x < 256 := by
  have := IntKind.wrap_u8 x
  omega
 unfold cB
 congr 2
 rw [UInt8.toNat_ofNat']
 omega
theorem lE {k : Nat} (h : k < l.length) : row c l k = c l[k] := by unfold row; simp [arc, h]
theorem oM {k : Nat} (h : l[k]? = some x) : row c l k = c x := by unfold row; simp [arc, h]
theorem kS (hp : ∀ x, (c x).all bZ = true) (k : Nat) : (row c l k).all bZ = true := by
 by_cases h : k < l.length
 ·rw [lE h]; exact hp _
 ·unfold row; simp [arc, arA (show l.length ≤ k by omega)]
theorem xU {s : ar} {k : Nat} (h : k < s.length) : row cB s k = [.int .u8 (s.getD k 0).toNat] := by
 rw [lE h]; simp [cB, arc, h]
theorem gP {s : ar} {b : UInt8} (h : nE s i = some b) : 0 ≤ i ∧ i < (s.length : Int) := (bx h).1
theorem gQ {s : ar} {b : UInt8} (h : nE s i = some b) : s.getD i.toNat 0 = b := (bx h).2
theorem Ev {s t : ar} (h : E8 s lo hi = some t) : 0 ≤ lo ∧ lo ≤ hi ∧ hi ≤ (s.length : Int) := (bx h).1
theorem Ew {s t : ar} (h : E8 s lo hi = some t) : (s.take hi.toNat).drop lo.toNat = t := (bx h).2
theorem Ml {s t : ar} (h : DU s lo = some t) : 0 ≤ lo ∧ lo ≤ (s.length : Int) := (bx h).1
theorem Mm {s t : ar} (h : DU s lo = some t) : s.drop lo.toNat = t := (bx h).2
theorem aaG {s t : ar} (h : sto s hi = some t) : 0 ≤ hi ∧ hi ≤ (s.length : Int) := (bx h).1
theorem aaH {s t : ar} (h : sto s hi = some t) : s.take hi.toNat = t := (bx h).2
theorem ay {s t u : ar} (h : aH s t = some u) : s.length + t.length ≤ 4611686018427387904 := (bx h).1
theorem az {s t u : ar} (h : aH s t = some u) : s ++ t = u := (bx h).2
theorem fL (h : jK l lo = some m) : ∀ i, i < m.length → row c m i = row c l (lo.toNat + i) := fun i Fv => by
 have hm : l[lo.toNat + i]? = some m[i] := by
  rw [← Of Fv, ← (bx h).2, arT]
 rw [lE Fv, oM hm]
theorem yB (h : G4 l hi = some m) : ∀ i, i < m.length → row c m i = row c l i := fun i Fv => by
 have hl := uz h
 have hm : l[i]? = some m[i] := by
  rw [← Of Fv, ← (bx h).2, asq, if_pos att]
 rw [lE Fv, oM hm]
def vM (c : α → List PV) (f : Nat → List PV) (off : Nat) (l : List α) : Prop := ∀ i, i < l.length → f (off + i) = row c l i
theorem aO : vM c (row c l) 0 l := fun i _ => by rw [ard]
theorem mn {s : ar} {f : Nat → List PV} {off n : Nat} (hs : vM cB f off s) (hn : s.length = n) : ∀ i, i < n → f (off + i) = [.int .u8 (s.getD i 0).toNat] := fun i hi => by
 subst hn
 rw [hs i hi]; exact xU hi
theorem gv {b : Nat} {q : List α} {f g : Nat → List PV} {off : Nat} (h : nD b l m = some q) (hf : vM c f off l) (hg : ∀ i, i < m.length → g i = row c m i) :
  ∀ i, i < q.length → mm (bif Nat.blt i l.length then f (off + i) else g (i - l.length)) (row c q i) := fun i Fv => by
 have hl := fP h
 have e : q = l ++ m := (bx h).2.symm
 subst e
 by_cases pG : i < l.length
 ·rw [aaD pG, hf i pG, lE Fv, lE pG, ast pG]; exact mm.refl _
 ·rw [aaE att, hg _ att, lE Fv, lE att, List.getElem_append_right att]; exact mm.refl _
theorem jC {f : Nat → List PV} {off : Nat} (hs : vM c f off m) : ∀ i, i < m.length → f (off + i) = row c m i := hs
theorem Oe {s : ar} : ∀ i, i < s.length → [PV.int .u8 (s.getD i 0).toNat] = row cB s i := fun i hi => (xU hi).symm
def CLL : List (List PV) → List (List PV) → Prop
 | [], [] => True
 | a :: l, b :: r => mm a b ∧ CLL l r
 | _, _ => False
theorem Bz {a b lit : List PV} {l r : List (List PV)} (e : b = lit) (h : mm a lit) (t : CLL l r) : CLL (a :: l) (b :: r) := ⟨by rw [e]; exact h, t⟩
theorem aB : ∀ {l r : List (List PV)}, l = r → CLL l r
 | [], _, rfl => trivial
 | a :: l, _, rfl => ⟨mm.refl _, aB rfl⟩
theorem Ex : ∀ {l r : List (List PV)}, CLL l r → ∀ i, mm (l.getD i []) (r.getD i [])
 | [], [], _, i => by simp; exact trivial
 | a :: l, b :: r, h, 0 => h.1
 | a :: l, b :: r, h, i + 1 => by simpa using Ex h.2 i
 | [], _ :: _, h, _ => h.elim
 | _ :: _, [], h, _ => h.elim
theorem aC (c : α → List PV) (l : List α) {n : Nat} {cs : List (List PV)} (hn : n = l.length) (h : CLL cs (l.map c)) : ∀ i, i < n → mm (cs.getD i []) (row c l i) := fun i _ => Ex h i
theorem P5 {k n off : Nat} {c0 cv lit : List PV} (hk : k < l.length) (he : c x' = lit) (hc : mm (gr c0 off cv) lit) : ∀ j, j < n → mm (sW (row c l) k (gr c0 off cv) j) (row c (l.set k x') j) := fun j _ => by
 rw [← he] at hc
 unfold row sW
 by_cases hj : j = k
 ·subst hj
  simpa [arc, hk] using hc
 ·have : Nat.beq j k = false := by
   cases hb : Nat.beq j k with
   | false => rfl
   | true => exact absurd (No hb) hj
  rw [this]
  simp only [cond_false, arc, ark, arF (asa hj)]
  exact mm.refl _
theorem bX {c0 cv new : List PV} {off : Nat} {f : Nat → List PV} (h : new = gr c0 off cv) : ∀ j, j < 1 → mm (sW f 0 (gr c0 off cv) j) ((fun _ => new) j) := fun j hj => by
 obtain rfl : j = 0 := by omega
 subst h
 exact mm.refl _
end
section
variable {α : Type} [Inhabited α] {c : α → List PV} {l m : List α} {x x' : α} {i lo hi : Int}
theorem aA (h : idx l i = some x) : 0 ≤ i ∧ i < (l.length : Int) := (bx h).1
theorem Mn (h : idx l i = some x) : l[i.toNat]? = some x := by
 have hb := aA h
 have hl : i.toNat < l.length := by omega
 rw [← (bx h).2, arc, Of hl]; rfl
theorem Mo (h : idx l i = some x) : i.toNat < l.length := by have hb := aA h; omega
theorem ax (h : idx l i = some x) : row c l i.toNat = c x := oM (Mn h)
theorem Mp {b : Nat} {n k : Int} {q : List α} (h : xJ b n k = some q) : 0 ≤ n ∧ n ≤ k ∧ k ≤ 4611686018427387904 ∧ k.toNat * b ≤ 140737488355328 := (bx h).1
theorem xV {b : Nat} {n k : Int} {q : List α} (h : xJ b n k = some q) : q.length = n.toNat := by rw [← (bx h).2]; simp
theorem GO {b : Nat} {n k : Int} {q : List α} {z lit : List PV} (h : xJ b n k = some q) (he : c default = lit) (hz : mm z lit) : ∀ i, i < q.length → mm z (row c q i) := fun i Fv => by
 have hl := xV h
 rw [oM (x := default) (by rw [← (bx h).2, List.getElem?_replicate, if_pos att]), he]
 exact hz
end
section
variable {h η : List ak} {k : List Nat}
theorem P6 {pv : PV} (hp : bZ pv = true) : Fz h η k pv pv := by
 cases pv with
 | int k n => exact .int _ _
 | bool b => exact .bool _
 | str s => exact .str _
 | bf => exact .bf
 | dt => exact .dt
 | eu sz n f => exact .eu _ _ _ _ (fun _ _ => rfl)
 | dY cs => exact .dY _
 | fn f => exact .fn _
 | _ => cases hp
theorem nd : ∀ {l : List PV}, l.all bZ = true → um h η k l l
 | [], _ => trivial
 | a :: l, hp => by
  simp only [are, As] at hp
  exact ⟨P6 hp.1, nd hp.2⟩
def P7 (h η : List ak) (k : List Nat) : List (Nat × Nat) → List (Nat × Nat) → Prop
 | [], [] => True
 | p :: r, p' :: r' => (k[p'.1]? = some p.1 ∧ (∃ sz n e f, h[p.1]? = some (ak.row p.2 sz n e f)) ∧ ∃ sz n e f, η[p'.1]? = some (ak.row p'.2 sz n e f) ∧ 0 < n) ∧ P7 h η k r r'
 | _, _ => False
theorem P7.get : ∀ (l l' : List (Nat × Nat)), P7 h η k l l' → l'.length = l.length ∧ ∀ (j : Nat) (p p' : Nat × Nat), l[j]? = some p → l'[j]? = some p' →
  k[p'.1]? = some p.1 ∧ (∃ sz n e f, h[p.1]? = some (ak.row p.2 sz n e f)) ∧ ∃ sz n e f, η[p'.1]? = some (ak.row p'.2 sz n e f) ∧ 0 < n
 | [], [], _ => ⟨rfl, fun j p p' hj _ => by simp at hj⟩
 | [], _ :: _, hh => hh.elim
 | _ :: _, [], hh => hh.elim
 | q :: r, q' :: r', hh => by
  obtain ⟨h1, h2⟩ := hh
  obtain ⟨q1, q2⟩ := P7.get r r' h2
  refine ⟨by simp [q1], fun j p p' hj Ef => ?_⟩
  cases j with
  | zero =>
   simp at hj Ef
   subst hj Ef
   exact h1
  | succ j => exact q2 j p p' atC (by simpa using Ef)
theorem Mq {α : Type} {c : α → List PV} (hp : ∀ x, (c x).all bZ = true) {id g sz n off : Nat} {e : TypeId} {f : Nat → List PV} {l : List α} (hk : id ∉ k) (ho : h[id]? = some (ak.row g sz n e f)) (hs : vM c f off l) :
  Fz h η k (.own id g off l.length) (sl sz c l) :=
 .Mf hk ho rfl rfl (fun i hi => kS hp i) (fun i hi => by rw [hs i hi]; exact nd (kS hp i))
theorem P8 {α : Type} {c : α → List PV} (hp : ∀ x, (c x).all bZ = true) {id g sz n off len : Nat} {e : TypeId} {f : Nat → List PV} {l : List α} (hk : id ∉ k) (ho : h[id]? = some (ak.row g sz n e f)) (hs : vM c f off l) (hl : len = l.length) :
  Fz h η k (.own id g off len) (sl sz c l) := by subst hl; exact Mq hp hk ho hs
end
theorem C9 {α : Type} {c : α → List PV} (hp : ∀ x, (c x).all bZ = true) (N g sz n : Nat) (e : TypeId) (l : List α) : fC N (.row g sz n e (row c l)) = .row g sz n e (row c l) := by
 suffices e : (fun i => (row c l i).map (lM N)) = row c l by unfold fC; simp only [e]
 funext i
 have h := kS (l := l) hp i
 generalize row c l i = q at h
 induction q with
 | nil => rfl
 | cons a r ih =>
  simp only [are, As] at h
  rw [adr, ih h.2]
  cases a <;> first | rfl | cases h.1
theorem BA {α : Type} {c : α → List PV} (hp : ∀ x, (c x).all bZ = true) (σ : Nat → Nat) (g sz n : Nat) (e : TypeId) (l : List α) : oK σ (.row g sz n e (row c l)) = .row g sz n e (row c l) := by
 suffices e : (fun i => (row c l i).map (lC σ)) = row c l by unfold oK; simp only [e]
 funext i
 have h := kS (l := l) hp i
 generalize row c l i = q at h
 induction q with
 | nil => rfl
 | cons a r ih =>
  simp only [are, As] at h
  rw [adr, ih h.2]
  cases a <;> first | rfl | cases h.1
theorem ACall.amP {P : Program} {f : FuncId} {args : List PV} {r0 : PV} (hA : ACall P f args [] (fun res h => res = r0 ∧ h = [])) (h : List ak) (hp : args.all Mr = true) (hr : ∀ n, pe n r0 = r0) :
  ACall P f args h (fun res h' => res = r0 ∧ h' = h) :=
 (hA.frame h hp).mono (by rintro _ _ ⟨_, _, ⟨rfl, rfl⟩, rfl, rfl⟩; exact ⟨hr _, by simp⟩)
theorem ACall.amQ {P : Program} {f : FuncId} {args jP : List PV} {r0 : PV} (hA : ACall P f jP [] (fun res h => res = r0 ∧ h = [])) (h : List ak) (hz : um h [] [] args jP) (hn : jP.all kg = true) (hf : Et r0 = true) (hr : ∀ n, pe n r0 = r0) :
  ACall P f args h (fun res h' => res = r0 ∧ h' = h) :=
 (hA.amK h hz hn (by rintro _ _ ⟨rfl, rfl⟩; exact ⟨hf, by simp⟩)).mono (by rintro _ _ ⟨_, _, ⟨rfl, rfl⟩, rfl, rfl⟩; exact ⟨hr _, by simp⟩)
section
variable {κ β : Type} [DecidableEq κ]
def mc (c : κ → PV) (d : β → PV) (p : κ × β) : List PV := [c p.1, d p.2]
end
theorem ln {a b : Nat} (h : a = b := by first | rfl | simp) : a = b := h
class oC {α : Type} (c : α → List PV) : Prop where
 pure : ∀ x, (c x).all bZ = true
instance : oC cI := ⟨P0⟩
instance (k : IntKind) : oC (aaF k) := ⟨GN k⟩
instance : oC cB := ⟨P1⟩
instance : oC cT := ⟨P2⟩
instance : oC cS := ⟨P3⟩
instance {α : Type} (sz : Nat) (c : α → List PV) : oC (cL sz c) := ⟨P4 sz c⟩
instance (a b : IntKind) : oC (mc (PV.int a) (PV.int b)) := ⟨fun _ => rfl⟩
instance (a : IntKind) : oC (mc (PV.int a) PV.bool) := ⟨fun _ => rfl⟩
instance (a : IntKind) : oC (mc (PV.int a) PV.str) := ⟨fun _ => rfl⟩
instance (b : IntKind) : oC (mc PV.str (PV.int b)) := ⟨fun _ => rfl⟩
instance : oC (mc PV.str PV.bool) := ⟨fun _ => rfl⟩
instance : oC (mc PV.str PV.str) := ⟨fun _ => rfl⟩
def US {α : Type} (l : List α) (off : Nat) (s : List α) : List α := l.mapIdx fun i x => if i < off then x else if i < off + s.length then s.getD (i - off) x else x
@[simp] theorem aa6 {α : Type} (l : List α) (off : Nat) (s : List α) : (US l off s).length = l.length := by unfold US; simp
section
variable {h η : List ak} {k : List Nat}
theorem Fz.i {q : IntKind} {a b : Int} (e : a = b := by rfl) : Fz h η k (.int q a) (.int q b) := .int_eq e
theorem Fz.b {a b : Bool} (e : a = b := by rfl) : Fz h η k (.bool a) (.bool b) := .Er e
theorem Fz.s {a b : List UInt8} (e : a = b := by rfl) : Fz h η k (.str a) (.str b) := .yV e
theorem Fz.l {sz n : Nat} {f : Nat → List PV} : Fz h η k (.eu sz n f) (.eu sz n f) := .eu _ _ _ _ (fun _ _ => rfl)
theorem Fz.z {α : Type} {c : α → List PV} {sz : Nat} : Fz h η k .bf (sl sz c []) := .UT _ _
theorem Fz.g {id id' g' bs : Nat} {e' : TypeId} {f' : Nat → List PV} (hk : k[id']? = some id := by rfl) (ho : h[id]? = none := by rfl) (hη : η[id']? = some (ak.row g' bs 0 e' f') := by rfl) : Fz h η k .bf (.own id' g' 0 0) := .amR id id' g' bs e' f' hk ho hη
theorem Fz.o {id id' g g' sz bs n len : Nat} {e e' : TypeId} {f f' : Nat → List PV} (hk : k[id']? = some id := by rfl) (ho : h[id]? = some (ak.row g sz n e f) := by rfl) (hη : η[id']? = some (ak.row g' bs len e' f') := by rfl) : Fz h η k (.own id g 0 len) (.own id' g' 0 len) :=
 .own _ _ _ _ _ _ _ _ _ _ _ _ _ _ hk ho hη (Nat.le_of_eq (ard _))
theorem Fz.ox {id id' g g' sz bs n len s9 : Nat} {e e' : TypeId} {f f' : Nat → List PV} (hl : len = s9) (hk : k[id']? = some id := by rfl) (ho : h[id]? = some (ak.row g sz n e f) := by rfl) (hη : η[id']? = some (ak.row g' bs s9 e' f') := by rfl) : Fz h η k (.own id g 0 len) (.own id' g' 0 s9) := by
 subst hl; exact Fz.o hk ho hη
theorem Fz.p {id id' g g' sz bs n n' off : Nat} {e e' : TypeId} {f f' : Nat → List PV} (hk : k[id']? = some id := by rfl) (ho : h[id]? = some (ak.row g sz n e f) := by rfl) (hη : η[id']? = some (ak.row g' bs (n' + 1) e' f') := by rfl) : Fz h η k (.aM id g 0 off) (.aM id' g' 0 off) :=
 .aM _ _ _ _ _ _ _ _ _ _ _ _ _ _ hk ho hη (Nat.succ_pos _)
theorem Fz.m {id id' g g' sz bs n n' : Nat} {e e' : TypeId} {f f' : Nat → List PV} (hk : k[id']? = some id := by rfl) (ho : h[id]? = some (ak.row g sz n e f) := by rfl) (hη : η[id']? = some (ak.row g' bs n' e' f') := by rfl) : Fz h η k (.kP id) (.kP id') :=
 .kP _ _ _ _ _ _ _ _ _ _ _ _ hk ho hη
theorem Fz.j {pv : PV} : Fz h η k pv .fO := .fO _
theorem Fz.f {n : Nat} : Fz h η k (.fn n) (.fn n) := .fn _
theorem Fz.r {α : Type} {c : α → List PV} [oC c] {id g sz n : Nat} {e : TypeId} {l : List α} (ho : h[id]? = some (ak.row g sz n e (row c l)) := by rfl) (hk : id ∉ k := by first | decide | simp) : Fz h η k (.own id g 0 l.length) (sl sz c l) := Mq oC.pure hk ho aO
theorem Fz.rx {α : Type} {c : α → List PV} [oC c] {id g sz n len : Nat} {e : TypeId} {l : List α} (hl : len = l.length) (ho : h[id]? = some (ak.row g sz n e (row c l)) := by rfl) (hk : id ∉ k := by first | decide | simp) : Fz h η k (.own id g 0 len) (sl sz c l) := P8 oC.pure hk ho aO hl
variable {m : Nat}
theorem od {α : Type} {c : α → List PV} [oC c] {id g sz : Nat} {e : TypeId} {l : List α} (ho : h[id]? = some (ak.row g sz l.length e (row c l)) := by rfl) : vN h η k m (.row g sz l.length e (row c l)) id id := by
 unfold vN; rw [ho]; exact ⟨fun _ => ⟨rfl, rfl⟩, rfl, .inl rfl, rfl, fun i _ => nd (kS oC.pure i)⟩
theorem ob {id g sz : Nat} {e : TypeId} {a b : List PV} (ho : h[id]? = some (ak.row g sz 1 e (fun _ => a))) (F : um h η k a b) : vN h η k m (.row g sz 1 e (fun _ => b)) id id := by
 unfold vN; rw [ho]; exact ⟨fun _ => ⟨rfl, rfl⟩, rfl, .inl rfl, rfl, fun i _ => F⟩
theorem nw {α : Type} {c : α → List PV} [oC c] {i id g g' sz : Nat} {e : TypeId} {l : List α} (hi : Nat.ble m i = true := by rfl) (ho : h[id]? = some (ak.row g sz l.length e (row c l)) := by rfl) : vN h η k m (.row g' sz l.length e (row c l)) i id := by
 unfold vN; rw [ho]; exact ⟨fun h0 => absurd h0 (Nat.not_lt.2 (arp hi)), rfl, .inl rfl, rfl, fun i _ => nd (kS oC.pure i)⟩
theorem nwx {α : Type} {c : α → List PV} [oC c] {i id g g' sz n n' : Nat} {e : TypeId} {l : List α} (ho : h[id]? = some (ak.row g sz n e (row c l))) (hn : n' = n) (hi : Nat.ble m i = true := by rfl) : vN h η k m (.row g' sz n' e (row c l)) i id := by
 unfold vN; rw [ho]; exact ⟨fun h0 => absurd h0 (Nat.not_lt.2 (arp hi)), rfl, .inl hn, rfl, fun i _ => nd (kS oC.pure i)⟩
theorem nb {i id g g' sz : Nat} {e : TypeId} {a b : List PV} (ho : h[id]? = some (ak.row g sz 1 e (fun _ => a))) (F : um h η k a b) (hi : Nat.ble m i = true := by rfl) : vN h η k m (.row g' sz 1 e (fun _ => b)) i id := by
 unfold vN; rw [ho]; exact ⟨fun h0 => absurd h0 (Nat.not_lt.2 (arp hi)), rfl, .inl rfl, rfl, fun i _ => F⟩
theorem cF {i id g g' sz : Nat} {e : TypeId} {a : List PV} (ho : h[id]? = some (ak.row g sz 1 e (fun _ => a))) (hp : a.all bZ = true := by rfl) (hi : Nat.ble m i = true := by rfl) : vN h η k m (.row g' sz 1 e (fun _ => a)) i id := nb ho (nd hp) hi
theorem dd {i id : Nat} : vN h η k m .dead i id := by unfold vN; trivial
theorem tk {env : Env} {σ : List (Nat × PV)} (k : List Nat) (he : Ey h η k env σ) (hh : lN h η k m 0 η k) (hd : k8 (kU η k) = true := by rfl) (hl : Nat.ble m k.length = true := by rfl) : pf m env h σ η := ⟨k, hd, arp hl, he, hh⟩
theorem ct {J : List (Nat × PV) → List ak → Prop} {env : Env} {σ : List (Nat × PV)} (hj : J σ η) (ht : pf m env h σ η) : rY m J env h := .mk σ η ht hj
theorem lg {body : (Env → List ak → Prop) → Env → List ak → Prop} {env : Env} {σ : List (Nat × PV)} (hj : aG m body σ η) (ht : pf m env h σ η) : loopGo m body env h := .mk σ η ht hj
theorem le {body : (Env → List ak → Prop) → Env → List ak → Prop} {env : Env} {σ : List (Nat × PV)} (hj : aG m body σ η) (ht : pf m env h σ η) : mo m body env h := .take σ η ht hj
theorem en {R : PV → List ak → Prop} {vs : List PV} {res : PV} (k : List Nat) (hR : R res η) (F : Fz h η k (oneOf vs) res) (hh : lN h η k m 0 η k) (hd : k8 (kU η k) = true := by rfl) (hl : Nat.ble m k.length = true := by rfl) (hn : vs.all kg = true := by rfl) : Ends m R h vs := by
 exact .mk hn k res η hd (arp hl) F hh hR
theorem eB {a r : Bool} (hh : some a = some r) : Ends 0 (fun res h => res = .bool r ∧ h = []) h [.bool a] := .mk rfl [] _ [] rfl (aqP _) (.Er (arG hh)) trivial ⟨rfl, rfl⟩
theorem eI {q : IntKind} {a r : Int} (hh : some a = some r) : Ends 0 (fun res h => res = .int q r ∧ h = []) h [.int q a] := .mk rfl [] _ [] rfl (aqP _) (.int_eq (arG hh)) trivial ⟨rfl, rfl⟩
theorem eS {a r : List UInt8} (hh : some a = some r) : Ends 0 (fun res h => res = .str r ∧ h = []) h [.str a] := .mk rfl [] _ [] rfl (aqP _) (.yV (arG hh)) trivial ⟨rfl, rfl⟩
end
section
variable {α : Type} {x y r : α} {T F : Prop}
theorem sD {c : Prop} [Decidable c] (h : (if c then x else y) = r) (kT : decide c = true → x = r → T) (kF : decide c = false → y = r → F) : eA (decide c) T F := .mk (fun hb => kT hb (amL hb h)) (fun hb => kF hb (amM hb h))
theorem sE {β : Type} [BEq β] [LawfulBEq β] {a b : β} [Decidable (a = b)] (h : (if a = b then x else y) = r) (kT : (a == b) = true → x = r → T) (kF : (a == b) = false → y = r → F) : eA (a == b) T F := .mk (fun hb => kT hb (Mh hb h)) (fun hb => kF hb (Mi hb h))
theorem VN {β : Type} [BEq β] [LawfulBEq β] {a b : β} [Decidable (a = b)] (h : (if a = b then x else y) = r) (kT : (!(a == b)) = true → y = r → T) (kF : (!(a == b)) = false → x = r → F) : eA (!(a == b)) T F := .mk (fun hb => kT hb (Mi (UR hb) h)) (fun hb => kF hb (Mh (UQ hb) h))
theorem sN {β : Type} [BEq β] [LawfulBEq β] {a b : β} [Decidable (a = b)] (h : (if a = b then x else y) = r) (kT : (a != b) = true → y = r → T) (kF : (a != b) = false → x = r → F) : eA (a != b) T F := .mk (fun hb => kT hb (amN hb h)) (fun hb => kF hb (amO hb h))
theorem sV {b : Bool} (h : (if b = true then x else y) = r) (kT : b = true → x = r → T) (kF : b = false → y = r → F) : eA b T F := .mk (fun hb => kT hb (UO hb h)) (fun hb => kF hb (UP hb h))
theorem l8 {b : Bool} (h : (if b = true then x else y) = r) (kT : (!b) = true → y = r → T) (kF : (!b) = false → x = r → F) : eA (!b) T F := .mk (fun hb => kT hb (UP (UR hb) h)) (fun hb => kF hb (UO (UQ hb) h))
end
theorem eA.t {T F : Prop} (h : T) : eA true T F := Mj h
theorem eA.f {T F : Prop} (h : F) : eA false T F := Mk h
theorem eA.kt {b : Bool} {T F : Prop} (hb : b = true) (h : T) : eA b T F := GM hb h
theorem pg.d {m : Nat} {A B : XQ → Env → List ak → Prop} {Q : XQ} {env : Env} {h : List ak} (hd : A (XQ.then (B Q) Q) env h) : pg m A B Q env h := .direct hd
inductive Nz : PV → PV → Prop
 | same (a : PV) : Nz a a
 | nil (sz : Nat) (f : Nat → List PV) : Nz .bf (.eu sz 0 f)
def NzL : List PV → List PV → Prop
 | [], [] => True
 | a :: l, b :: r => Nz a b ∧ NzL l r
 | _, _ => False
inductive NzA : PV → PV → Prop
 | same (a : PV) : NzA a a
 | nil (sz : Nat) (f : Nat → List PV) : NzA .bf (.eu sz 0 f)
 | agg {cs sJ : List PV} (h : NzL cs sJ) : NzA (.agg cs) (.agg sJ)
def P9 : List PV → List PV → Prop
 | [], [] => True
 | a :: l, b :: r => NzA a b ∧ P9 l r
 | _, _ => False
theorem NzL.get : ∀ {l r : List PV}, NzL l r → r.length = l.length ∧ ∀ (j : Nat) (p : PV), r[j]? = some p → ∃ q : PV, l[j]? = some q ∧ Nz q p
 | [], [], _ => ⟨rfl, fun j p h => by simp at h⟩
 | a :: l, b :: r, h => by
  obtain ⟨h1, h2⟩ := NzL.get h.2
  refine ⟨by simp [h1], fun j p hj => ?_⟩
  cases j with
  | zero => simp at hj; subst hj; exact ⟨a, rfl, h.1⟩
  | succ j => obtain ⟨q, q1, q2⟩ := h2 j p atC; exact ⟨q, by simpa using q1, q2⟩
 | [], _ :: _, h => h.elim
 | _ :: _, [], h => h.elim
theorem P9.get : ∀ {l r : List PV}, P9 l r → r.length = l.length ∧ ∀ (j : Nat) (p : PV), r[j]? = some p → ∃ q : PV, l[j]? = some q ∧ NzA q p
 | [], [], _ => ⟨rfl, fun j p h => by simp at h⟩
 | a :: l, b :: r, h => by
  obtain ⟨h1, h2⟩ := P9.get h.2
  refine ⟨by simp [h1], fun j p hj => ?_⟩
  cases j with
  | zero => simp at hj; subst hj; exact ⟨a, rfl, h.1⟩
  | succ j => obtain ⟨q, q1, q2⟩ := h2 j p atC; exact ⟨q, by simpa using q1, q2⟩
 | [], _ :: _, h => h.elim
 | _ :: _, [], h => h.elim
section
variable {P : Program} {f : FuncId} {args : List PV} {h : List ak} {K : PV → List ak → Prop} {r0 : PV}
theorem aS (hA : ACall P f args [] (fun res h => res = r0 ∧ h = [])) (k : K r0 h) (hp : args.all Mr = true := by rfl) (hr : ∀ n, pe n r0 = r0 := by intro _; rfl) : rA P f args h K :=
 ⟨_, hA.amP h hp hr, by rintro _ _ ⟨rfl, rfl⟩; exact k⟩
theorem pcS {jP : List PV} (hA : ACall P f jP [] (fun res h => res = r0 ∧ h = [])) (hz : um h [] [] args jP) (k : K r0 h) (hn : jP.all kg = true := by rfl) (hf : Et r0 = true := by rfl) (hr : ∀ n, pe n r0 = r0 := by intro _; rfl) : rA P f args h K :=
 ⟨_, hA.amQ h hz hn hf hr, by rintro _ _ ⟨rfl, rfl⟩; exact k⟩
theorem shr {α : Type} {c : α → List PV} [oC c] (N g sz n : Nat) (e : TypeId) (l : List α) : fC N (.row g sz n e (row c l)) = .row g sz n e (row c l) := C9 oC.pure N g sz n e l
theorem iR {α : Type} {c : α → List PV} [oC c] (σ : Nat → Nat) (g sz n : Nat) (e : TypeId) (l : List α) : oK σ (.row g sz n e (row c l)) = .row g sz n e (row c l) := BA oC.pure σ g sz n e l
def TF (h : List ak) (σ : Nat → Nat) : List ak → List Nat → Prop
 | [], _ => True
 | o :: r, i :: is => h[i]? = some (oK σ o) ∧ TF h σ r is
 | _ :: _, [] => False
theorem TF.get {h : List ak} {σ : Nat → Nat} : ∀ {hc : List ak} {is : List Nat}, TF h σ hc is → ∀ (j : Nat) (o : ak), hc[j]? = some o → ∃ i : Nat, is[j]? = some i ∧ h[i]? = some (oK σ o)
 | [], _, _, j, o, hj => by simp at hj
 | a :: r, [], hh, _, _, _ => hh.elim
 | a :: r, i :: is, hh, 0, o, hj => by simp at hj; subst hj; exact ⟨i, rfl, hh.1⟩
 | a :: r, i :: is, hh, j + 1, o, hj => by
  obtain ⟨q, h1, h2⟩ := TF.get hh.2 j o atC
  exact ⟨q, by simpa using h1, h2⟩
theorem ov {α : Type} {c : α → List PV} [oC c] {σ : Nat → Nat} {g sz n : Nat} {e : TypeId} {l : List α} {x : Option ak} (hx : x = some (.row g sz n e (row c l)) := by rfl) : x = some (oK σ (.row g sz n e (row c l))) := by rw [BA oC.pure]; exact hx
theorem ACall.JV {hc : List ak} {args kJ : List PV} {R : PV → List ak → Prop} (hA : ACall P f args hc R) (is : List Nat) (h : List ak) (gh : TF h (ft is h.length) hc is) (hl : hc.length = is.length) (hd : is.Nodup) (cD : is.all (fun id => Nat.blt id h.length) = true)
  (mN : kJ = args.map (u6 (ft is h.length))) : ACall P f kJ h (fun res h' => ∃ r0 h0, R r0 h0 ∧ res = Cv (ft is h.length) r0 ∧ h' = bK h is h0) :=
 hA.over is h hl hd (fun id hid => arp (aqW.1 cD id hid)) (fun j o hj => by
  obtain ⟨i, h1, h2⟩ := gh.get j o hj
  unfold ft; rw [h1]; exact h2) mN
theorem pcO {hc h0 : List ak} {args kJ : List PV} (hA : ACall P f args hc (fun res h => res = r0 ∧ h = h0)) (is : List Nat) (gh : TF h (ft is h.length) hc is) (r1 : PV) (h1 : List ak) (k : K r1 h1) (e2 : bK h is h0 = h1 := by simp only [bK, aK, adr, aqS, List.drop, an, mg, iR]; rfl) (e1 : Cv (ft is h.length) r0 = r1 := by rfl)
  (hl : hc.length = is.length := by rfl) (hd : is.Nodup := by decide) (cD : is.all (fun id => Nat.blt id h.length) = true := by rfl) (mN : kJ = args.map (u6 (ft is h.length)) := by rfl) : rA P f kJ h K :=
 ⟨_, hA.JV is h gh hl hd cD mN, by rintro _ _ ⟨_, _, ⟨rfl, rfl⟩, rfl, rfl⟩; rw [e1, e2]; exact k⟩
end
theorem si {α : Type} {a b : α} (h : some a = some b) : a = b := arG h
theorem bk {α β : Type} {x : Option α} {f : α → Option β} {r : β} {G : Prop} (h : (x >>= f) = some r) (k : ∀ a, x = some a → f a = some r → G) : G := by
 obtain ⟨a, h1, h2⟩ := bind_some h
 exact k a h1 h2
theorem bd {α β : Type} {x : Option α} {f : α → Option β} {r : β} (h : (x >>= f) = some r) : ∃ a, x = some a ∧ f a = some r := bind_some h
structure DR {α : Type} (D : List PV → α → Prop) (n : Nat) (f : Nat → List PV) (l : List α) : Prop where
 len : l.length = n
 at_ : ∀ i (h : i < l.length), D (f i) l[i]
 z : ∀ i, n ≤ i → f i = []
inductive OD1 : PV → PV → Prop
 | p {a : PV} (h : bZ a = true) : OD1 a a
 | o {a b : PV} (h : vO a b) : OD1 a b
def BB : List PV → List PV → Prop
 | [], [] => True
 | a :: l, b :: r => OD1 a b ∧ BB l r
 | _, _ => False
class Dcl {α : Type} (D : List PV → α → Prop) (c : outParam (α → List PV)) : Prop where
 frz : ∀ cs x, D cs x → BB cs (c x)
def DEq {α : Type} (c : α → List PV) : List PV → α → Prop := fun cs x => cs = c x
theorem BB.len : ∀ {l r : List PV}, BB l r → r.length = l.length
 | [], [], _ => rfl
 | a :: l, b :: r, h => congrArg (· + 1) (BB.len h.2)
 | [], _ :: _, h => h.elim
 | _ :: _, [], h => h.elim
theorem BB.get : ∀ {l r : List PV}, BB l r → ∀ {j : Nat} {a b : PV}, l[j]? = some a → r[j]? = some b → OD1 a b
 | a :: l, b :: r, h, 0, x, y, hx, hy => by simp at hx hy; subst hx hy; exact h.1
 | a :: l, b :: r, h, j + 1, x, y, hx, hy => BB.get h.2 (by simpa using hx) atM
 | [], _, h, j, x, y, hx, hy => by simp at hx
 | _ :: _, [], h, _, _, _, _, _ => h.elim
theorem BB.pure : ∀ {l : List PV}, l.all bZ = true → BB l l
 | [], _ => trivial
 | a :: l, h => by
  simp only [are, As] at h
  exact ⟨.p h.1, BB.pure h.2⟩
theorem vO.isO {a b : PV} (h : vO a b) : eC a = true := by cases h; rfl
theorem vO.Ms {a b : PV} (h : vO a b) : bZ b = true := by cases h; rfl
theorem OD1.Ms {a b : PV} (h : OD1 a b) : bZ b = true := by
 cases h with
 | p h => exact h
 | o h => exact h.Ms
instance {α : Type} (c : α → List PV) [hp : oC c] : Dcl (DEq c) c := ⟨fun cs x h => by
 have h : cs = c x := h
 subst h; exact BB.pure (hp.pure x)⟩
theorem Da {a : PV} (h : eC a = true) : bZ a = false := by cases a <;> first | rfl | cases h
section
variable {α : Type} {D : List PV → α → Prop} {c : α → List PV} {n : Nat} {f : Nat → List PV} {l : List α}
theorem Mt (hD : ∀ i (h : i < l.length), BB (f i) (c l[i])) (hl : l.length = n) (sz : Nat) (e : TypeId) (F : Nat → Prop) : vO (.fm sz n e f F) (sl sz c l) := by
 subst hl
 have at_ : ∀ i, i < l.length → BB (f i) (row c l i) := fun i hi => by rw [lE hi]; exact hD i hi
 refine .mk sz l.length e f (row c l) F (fun i hi => (at_ i hi).len) (fun i j pv eg hi h1 h2 hn => ?_) (fun i j pv eg hi h1 h2 hn => ?_) (fun i j eg hi h2 => ?_)
 ·cases (at_ i hi).get h1 h2 with
  | p _ => rfl
  | o h => rw [h.isO] at hn; cases hn
 ·cases (at_ i hi).get h1 h2 with
  | p h => rw [Da hn] at h; cases h
  | o h => exact h
 ·have hj : j < (f i).length := by rw [← (at_ i hi).len]; exact (At.1 h2).1
  exact ((at_ i hi).get (Of hj) h2).Ms
theorem DR.od [hc : Dcl D c] (d : DR D n f l) : ∀ i (h : i < l.length), BB (f i) (c l[i]) := fun i h => hc.frz _ _ (d.at_ i h)
theorem DR.nil : DR D 0 (fun _ => []) [] := ⟨rfl, fun i h => absurd h (arK _), fun _ _ => rfl⟩
theorem Ez {f : Nat → List PV} {i : Nat} {cs : List PV} : sW f i cs i = cs := by
 unfold sW
 rw [show Nat.beq i i = true from arY i]
 rfl
theorem uD {f : Nat → List PV} {i k : Nat} {cs : List PV} (h : k ≠ i) : sW f i cs k = f k := by
 unfold sW
 rw [show Nat.beq k i = false from Bool.eq_false_iff.2 (fun q => h (No q))]
 rfl
theorem DR.set (d : DR D n f l) {i : Nat} (hi : i < l.length) {cs : List PV} {x : α} (hx : D cs x) : DR D n (sW f i cs) (l.set i x) := by
 refine ⟨by rw [aso]; exact d.len, fun k hk => ?_, fun k hk => ?_⟩
 ·rw [aso] at hk
  rw [List.getElem_set]
  by_cases h : i = k
  ·subst h; rw [if_pos rfl, Ez]; exact hx
  ·rw [if_neg h, uD (asa h)]; exact d.at_ k hk
 ·have := d.len
  rw [uD att]; exact d.z k hk
theorem DR.app (d : DR D n f l) {cs : List PV} {x : α} (hx : D cs x) : DR D (n + 1) (sW f n cs) (l ++ [x]) := by
 have hl := d.len
 refine ⟨by simp [hl], fun k hk => ?_, fun k hk => ?_⟩
 ·by_cases h : k = n
  ·subst h
   rw [Ez, List.getElem_append_right att]
   simp only [hl, arS, asw]
   exact hx
  ·rw [uD h, ast (by simp at hk; omega)]; exact d.at_ k (by simp at hk; omega)
 ·rw [uD att]; exact d.z k att
theorem DR.idx [Inhabited α] (d : DR D n f l) {i : Int} {x : α} (h : Go.Am.idx l i = some x) : D (f i.toNat) x := by
 have h1 := Mn h
 obtain ⟨h2, h3⟩ := At.1 h1
 rw [← h3]; exact d.at_ _ h2
theorem DR.lt [Inhabited α] (d : DR D n f l) {i : Int} {x : α} (h : Go.Am.idx l i = some x) : i.toNat < n := by rw [← d.len]; exact Mo h
theorem DR.bd [Inhabited α] (d : DR D n f l) {i : Int} {x : α} (h : Go.Am.idx l i = some x) : 0 ≤ i ∧ i < (n : Int) := by rw [← d.len]; exact aA h
variable {h η : List ak} {k : List Nat} {m : Nat}
theorem Fz.od {id id' g g' sz bs n0 n1 n2 n3 : Nat} {e e' : TypeId} {f f' : Nat → List PV} (h1 : n1 = n2 := by first | rfl | simp [*]) (h2 : n2 = n3 := by first | rfl | simp [*]) (hk : k[id']? = some id := by rfl) (ho : h[id]? = some (ak.row g sz n0 e f) := by rfl) (hη : η[id']? = some (ak.row g' bs n3 e' f') := by rfl) : Fz h η k (.own id g 0 n1) (.own id' g' 0 n2) := by
 subst h1 h2
 exact .own _ _ _ _ _ _ _ _ _ _ _ _ _ _ hk ho hη (Nat.le_of_eq (ard _))
end
section
variable {P : Program} {f : FuncId} {args : List PV} {h : List ak} {K : PV → List ak → Prop} {R : PV → List ak → Prop}
theorem cm {hc : List ak} {kJ : List PV} (hA : ACall P f args hc R) (is : List Nat) (gh : TF h (ft is h.length) hc is)
  (k : ∀ r0 h0, R r0 h0 → ∃ r1 h1, Cv (ft is h.length) r0 = r1 ∧ bK h is h0 = h1 ∧ K r1 h1)
  (mN : kJ = args.map (u6 (ft is h.length)) := by rfl) (hl : hc.length = is.length := by rfl) (hd : is.Nodup := by decide) (cD : is.all (fun id => Nat.blt id h.length) = true := by rfl) : rA P f kJ h K :=
 ⟨_, hA.JV is h gh hl hd cD mN, by
  rintro _ _ ⟨r0, h0, hR, rfl, rfl⟩
  obtain ⟨r1, h1, rfl, rfl, hk⟩ := k r0 h0 hR
  exact hk⟩
end
def ph (cs : List PV) : Prop := ∀ c ∈ cs, (eC c = false → lO c = true) ∧ (eC c = true → OG (fun pv => lO pv = true) c)
class Fl1 {α : Type} (c : α → List PV) : Prop where
 fl : ∀ x, (c x).all lO = true
class Dfl {α : Type} (D : List PV → α → Prop) : Prop where
 fl : ∀ cs x, D cs x → ph cs
instance : Fl1 cI := ⟨fun _ => rfl⟩
instance (k : IntKind) : Fl1 (aaF k) := ⟨fun _ => rfl⟩
instance : Fl1 cB := ⟨fun _ => rfl⟩
instance : Fl1 cT := ⟨fun _ => rfl⟩
instance : Fl1 cS := ⟨fun _ => rfl⟩
theorem BC {a : PV} (h : lO a = true) : eC a = false := by cases a <;> first | rfl | cases h
theorem apY : ph [] := fun c hc => absurd hc asH
theorem aaI {a : PV} {l : List PV} (t : ph l) (h : lO a = true := by rfl) : ph (a :: l) := fun c hc => by
 rcases aqY.1 hc with rfl | hc
 ·exact ⟨fun _ => h, fun q => by rw [BC h] at q; cases q⟩
 ·exact t c hc
theorem aaJ {l : List PV} (h : l.all lO = true) : ph l := fun c hc => ⟨fun _ => aqW.1 h c hc, fun q => by rw [BC (aqW.1 h c hc)] at q; cases q⟩
theorem amS {sz n : Nat} {e : TypeId} {f : Nat → List PV} {F : Nat → Prop} (h : ∀ i, i < n → ph (f i)) : OG (fun pv => lO pv = true) (.fm sz n e f F) :=
 .mk sz n e f F (fun i j pv hi hj hn => (h i hi pv (arh hj)).1 hn) (fun i j _ _ _ _ _ hi hj => (h i hi _ (arh hj)).2 rfl)
theorem apZ {sz n : Nat} {e : TypeId} {f : Nat → List PV} {F : Nat → Prop} {l : List PV} (h : ∀ i, i < n → ph (f i)) (t : ph l) : ph (.fm sz n e f F :: l) := fun c hc => by
 rcases aqY.1 hc with rfl | hc
 ·exact ⟨fun q => (by cases q), fun _ => amS h⟩
 ·exact t c hc
instance {α : Type} (c : α → List PV) [h : Fl1 c] : Dfl (DEq c) := ⟨fun cs x q => by
 have q : cs = c x := q
 subst q; exact aaJ (h.fl x)⟩
theorem BD : ∀ {l : List PV}, l.all bZ = true → noO l = true
 | [], _ => rfl
 | a :: l, h => by
  simp only [are, As] at h
  have := BD h.2
  cases a <;> first | exact this | (have h1 := h.1; cases h1)
theorem k9 {α : Type} {c : α → List PV} [hp : oC c] {f : Nat → List PV} {off : Nat} {l : List α} (hs : vM c f off l) : ∀ i, i < l.length → noO (f (off + i)) = true := fun i hi => by
 rw [hs i hi]; exact BD (kS hp.pure i)
section
variable {α : Type} {D : List PV → α → Prop} {n : Nat} {f : Nat → List PV} {l q : List α} {x : α} {b : Nat}
theorem Mv (h : nD b l [x] = some q) : l ++ [x] = q := (bx h).2
theorem DR.ln (d : DR D n f l) (h : nD b l [x] = some q) : q.length = n + 1 := by
 have h1 := Mv h
 subst h1
 simp [d.len]
end
end Go.Am
namespace Go.Am
open Go Go.RowKit Go.Proofs
mutual
inductive ae where
 | mk (ai : Int) (aD : Int) (aj : ar) (ah : List ae)
end
def ae.ai : ae → Int | .mk x _ _ _ => x
def ae.aD : ae → Int | .mk _ x _ _ => x
def ae.aj : ae → ar | .mk _ _ x _ => x
def ae.ah : ae → List ae | .mk _ _ _ x => x
@[simp] theorem ae.mT (a0 : Int) (a1 : Int) (a2 : ar) (a3 : List ae) : (ae.mk a0 a1 a2 a3).ai = a0 := rfl
@[simp] theorem ae.nG (a0 : Int) (a1 : Int) (a2 : ar) (a3 : List ae) : (ae.mk a0 a1 a2 a3).aD = a1 := rfl
@[simp] theorem ae.lG (a0 : Int) (a1 : Int) (a2 : ar) (a3 : List ae) : (ae.mk a0 a1 a2 a3).aj = a2 := rfl
@[simp] theorem ae.j8 (a0 : Int) (a1 : Int) (a2 : ar) (a3 : List ae) : (ae.mk a0 a1 a2 a3).ah = a3 := rfl
instance : Inhabited ae := ⟨.mk 0 0 [] []⟩
mutual
def ae.cells : ae → List PV | .mk a0 a1 a2 a3 => [.int .i64 a0] ++ [.int .i64 a1] ++ [.str a2] ++ [.eu 4 a3.length (fun i => (ae.zD a3).getD i [])]
def ae.zD : List ae → List (List PV) | [] => [] | x :: r => x.cells :: ae.zD r
end
theorem ae.vP : ∀ (l : List ae), ae.zD l = l.map ae.cells
 | [] => rfl
 | a :: r => by unfold ae.zD; rw [ae.vP r]; rfl
abbrev ae.lit (x : ae) : List PV := [.int .i64 x.ai, .int .i64 x.aD, .str x.aj, sl 4 ae.cells x.ah]
theorem ae.au (x : ae) : x.cells = x.lit := by
 cases x with
 | mk a0 a1 a2 a3 =>
  unfold ae.cells
  rw [ae.vP]
  rfl
theorem ae.fp (x : ae) : x.cells.all bZ = true := by rw [ae.au]; rfl
instance : oC ae.cells := ⟨ae.fp⟩
structure aF where
 aqH : Unit
 aq : List UInt8
 deriving DecidableEq, Inhabited
structure av where
 af : aF
 deriving DecidableEq, Inhabited
structure iZ where
 ai : Int
 aD : Int
 aj : ar
 fAt : Int
 deriving DecidableEq, Inhabited
abbrev iZ.lit (x : iZ) : List PV := [.int .i64 x.ai, .int .i64 x.aD, .str x.aj, .int .i64 x.fAt]
def iZ.cells (x : iZ) : List PV := x.lit
theorem iZ.au (x : iZ) : x.cells = x.lit := rfl
theorem iZ.fp (x : iZ) : x.cells.all bZ = true := rfl
instance : oC iZ.cells := ⟨iZ.fp⟩
structure qb where
 fT : List iZ
 fI : Int
 aaK : Int
 aaL : Int
 deriving DecidableEq, Inhabited
abbrev qb.lit (x : qb) : List PV := [sl 4 iZ.cells x.fT, .int .i64 x.fI, .int .i64 x.aaK, .int .i64 x.aaL]
def qb.cells (x : qb) : List PV := x.lit
theorem qb.au (x : qb) : x.cells = x.lit := rfl
theorem qb.fp (x : qb) : x.cells.all bZ = true := rfl
instance : oC qb.cells := ⟨qb.fp⟩
structure kE where
 Qa : List iZ
 fAt : Int
 aaK : Int
 aaL : Bool
 deriving DecidableEq, Inhabited
abbrev kE.lit (x : kE) : List PV := [sl 4 iZ.cells x.Qa, .int .i64 x.fAt, .int .i64 x.aaK, .bool x.aaL]
def kE.cells (x : kE) : List PV := x.lit
theorem kE.au (x : kE) : x.cells = x.lit := rfl
theorem kE.fp (x : kE) : x.cells.all bZ = true := rfl
instance : oC kE.cells := ⟨kE.fp⟩
structure mF where
 fS : ar
 fAt : Int
 ap0 : List iZ
 amT : Int
 deriving DecidableEq, Inhabited
abbrev mF.lit (x : mF) : List PV := [.str x.fS, .int .i64 x.fAt, sl 4 iZ.cells x.ap0, .int .i64 x.amT]
def mF.cells (x : mF) : List PV := x.lit
theorem mF.au (x : mF) : x.cells = x.lit := rfl
theorem mF.fp (x : mF) : x.cells.all bZ = true := rfl
instance : oC mF.cells := ⟨mF.fp⟩
structure mG where
 fB : List UInt8
 fI : Int
 fH : Int
 deriving DecidableEq, Inhabited
abbrev mG.lit (x : mG) : List PV := [sl 1 cB x.fB, .int .i64 x.fI, .int .i64 x.fH]
def mG.cells (x : mG) : List PV := x.lit
theorem mG.au (x : mG) : x.cells = x.lit := rfl
theorem mG.fp (x : mG) : x.cells.all bZ = true := rfl
instance : oC mG.cells := ⟨mG.fp⟩
instance : Fl1 iZ.cells := ⟨fun _ => rfl⟩
inductive ae.D : List PV → ae → Prop
 | mk (x : ae) (n0 : Nat) (F0 : Nat → Prop) (zW : x.ah.length = n0) (f0 : Nat → List PV) (h0 : ∀ i (hi : i < x.ah.length), ae.D (f0 i) x.ah[i]) (hz0 : ∀ i, n0 ≤ i → f0 i = []) : ae.D [.int .i64 x.ai, .int .i64 x.aD, .str x.aj, .fm 4 n0 29 f0 F0] x
theorem ae.amU : ∀ cs x, ae.D cs x → BB cs x.cells := fun cs x h => ae.D.rec (motive := fun cs x _ => BB cs x.cells) (fun x n0 F0 zW f0 h0 hz0 ih0 => by rw [ae.au]; exact ⟨.p rfl, .p rfl, .p rfl, .o (Mt ih0 zW 4 29 F0), trivial⟩) h
instance : Dcl ae.D ae.cells := ⟨ae.amU⟩
theorem ae.aaM : ∀ cs x, ae.D cs x → ph cs := fun cs x h => ae.D.rec (motive := fun cs x _ => ph cs) (fun x n0 F0 zW f0 h0 hz0 ih0 => (aaI (aaI (aaI (apZ (fun i hi => ih0 i (Nat.lt_of_lt_of_eq hi zW.symm)) apY))))) h
instance : Dfl ae.D := ⟨ae.aaM⟩
def aaN : lq := p9 [(3, .int .i64),
 (4, .bool),
 (5, .int .u8),
 (9, .str),
 (22, .slice 24 4 56 [.int .i64 0, .int .i64 0, .str [], .bf]),
 (24, .struct 4 [(0, 1, false), (1, 1, false), (2, 1, false), (3, 1, false)] [.int .i64 0, .int .i64 0, .str [], .bf]),
 (27, .slice 29 4 56 [.int .i64 0, .int .i64 0, .str [], .bf]),
 (29, .struct 4 [(0, 1, false), (1, 1, false), (2, 1, false), (3, 1, false)] [.int .i64 0, .int .i64 0, .str [], .bf]),
 (39, .slice 5 1 1 [.int .u8 0]),
 (49, .struct 2 [(0, 1, false), (1, 1, false)] [.dt, .bf]),
 (51, .struct 2 [(0, 2, true)] [.dt, .bf]),
 (58, .slice 101 4 40 [.int .i64 0, .int .i64 0, .str [], .int .i64 0]),
 (62, .struct 4 [(0, 1, false), (1, 1, false), (2, 1, false), (3, 1, false)] [.bf, .int .i64 0, .int .i64 0, .int .i64 0]),
 (67, .struct 4 [(0, 1, false), (1, 1, false), (2, 1, false), (3, 1, false)] [.bf, .int .i64 0, .int .i64 0, .bool false]),
 (78, .slice 9 1 16 [.str []]),
 (88, .ptr 5),
 (101, .struct 4 [(0, 1, false), (1, 1, false), (2, 1, false), (3, 1, false)] [.int .i64 0, .int .i64 0, .str [], .int .i64 0]),
 (107, .struct 4 [(0, 1, false), (1, 1, false), (2, 1, false), (3, 1, false)] [.str [], .int .i64 0, .bf, .int .i64 0]),
 (117, .struct 3 [(0, 1, false), (1, 1, false), (2, 1, false)] [.bf, .int .i64 0, .int .i64 0]),
 (120, .slice 3 1 8 [.int .i64 0])]
theorem Qb : cd Tryz.prog aaN := amH atD
theorem mixed : Tryz.prog.follows .mixedOrders = true := by kernel_rfl
theorem gd {f : FuncId} {fn : Func} {c : Code} {args : List PV} {h : List ak} {R : PV → List ak → Prop} (hf : Tryz.prog.funcs[f]? = some fn) (hv : vc Tryz.prog aaN h.length c (amV aaN fn.results.toList h.length R) (pj args) h) (hb : fn.body = some c := by rfl) (rZ : (fn.name == "runtime.NumGoroutine") = false := by kernel_rfl) (hn : Nat.ble args.length fn.ntmps = true := by rfl) (ud : codeOk fn.ntmps c = true := by kernel_rfl) : ACall Tryz.prog f args h R := ACall.amW Qb mixed hf hb rZ _ _ _ hn ud hv
set_option maxRecDepth 100000
mutual
def jF (a0 : ae) (a1 : Int) : Option (Int) :=
 (if (aT (a1 - (a0.aj.length : Int))) < 0 then
 some (-1)
 else
 oT a0.ah (aT (a1 - (a0.aj.length : Int))) >>= fun v2 =>
 (if v2 < 0 then
 some (-1)
 else
 some v2))
partial_fixpoint
def oT (a0 : List ae) (a1 : Int) : Option (Int) :=
 (if (aT (a1 - (a0.length : Int))) < 0 then
 some (-1)
 else
 ((
 fh a0 (aT (a1 - (a0.length : Int))) 0
 : Option ((Int) ⊕ Int)) >>= fun o7 => match o7 with
 | .inr r => some r
 | .inl y6 =>
 some y6
 ))
partial_fixpoint
def fh (a0 : List ae) (hZ : Int) (ie : Int) : Option ((Int) ⊕ Int) :=
 (if ie < (a0.length : Int) then
 idx a0 ie >>= fun nJ =>
 jF nJ hZ >>= fun yD =>
 (if yD < 0 then
 some (.inr (-1))
 else
 fh a0 yD (aT (ie + 1)))
 else
 some (.inl hZ))
partial_fixpoint
end
def EA (a0 : ae) (a1 : Int) (r : Int) : Prop := ACall Tryz.prog 10 [.agg a0.lit, .int .i64 a1] [] (fun res h => res = .int .i64 r ∧ h = [])
def UU (a0 : List ae) (a1 : Int) (r : Int) : Prop := ACall Tryz.prog 37 [sl 4 ae.cells a0, .int .i64 a1] [] (fun res h => res = .int .i64 r ∧ h = [])
inductive dL : (List ae) → Int → Int → ((Int) ⊕ Int) → Prop
 | mk (G10 : ae → Int → Option (Int)) (ap1 : ∀ a0 a1 r, G10 a0 a1 = some r → EA a0 a1 r) (eV : (List ae) → Int → Int → Option ((Int) ⊕ Int)) (r7 : ∀ a0 hZ ie o, eV a0 hZ ie = some o → dL a0 hZ ie o) (a0 : List ae) (hZ : Int) (ie : Int) (o : (Int) ⊕ Int) (h : (
 (if ie < (a0.length : Int) then
 idx a0 ie >>= fun nJ =>
 G10 nJ hZ >>= fun yD =>
 (if yD < 0 then
 some (.inr (-1))
 else
 eV a0 yD (aT (ie + 1)))
 else
 some (.inl hZ))
 ) = some o) : dL a0 hZ ie o
theorem qG {motive : (List ae) → Int → Int → ((Int) ⊕ Int) → Prop} (step : ∀ (G10 : ae → Int → Option (Int)) (ap1 : ∀ a0 a1 r, G10 a0 a1 = some r → EA a0 a1 r) (eV : (List ae) → Int → Int → Option ((Int) ⊕ Int)) (r7 : ∀ a0 hZ ie o, eV a0 hZ ie = some o → dL a0 hZ ie o) (a0 : List ae) (hZ : Int) (ie : Int) (o : (Int) ⊕ Int) (h : (
 (if ie < (a0.length : Int) then
 idx a0 ie >>= fun nJ =>
 G10 nJ hZ >>= fun yD =>
 (if yD < 0 then
 some (.inr (-1))
 else
 eV a0 yD (aT (ie + 1)))
 else
 some (.inl hZ))
 ) = some o) (ih : ∀ a0 hZ ie o, eV a0 hZ ie = some o → motive a0 hZ ie o), motive a0 hZ ie o) : ∀ a0 hZ ie o, dL a0 hZ ie o → motive a0 hZ ie o :=
 fun a0 hZ ie o h => dL.rec (motive := fun a0 hZ ie o _ => motive a0 hZ ie o) step h
theorem xc : (∀ a0 a1 r, jF a0 a1 = some r → EA a0 a1 r) ∧ (∀ a0 a1 r, oT a0 a1 = some r → UU a0 a1 r) ∧ (∀ a0 hZ ie o, fh a0 hZ ie = some o → dL a0 hZ ie o) := by
 refine jF.mutual_partial_correctness EA UU dL ?_ ?_ ?_
 intro _ amX a0 a1 r h
 refine gd Tryz.func10 ?_
 refine .d (.d ⟨rfl, ⟨rfl, _, rfl, (.d (.d (sD h (fun lk h => ?_) (fun lk h => ?_))))⟩⟩)
 exact ata
 refine .d ⟨rfl, ⟨rfl, _, rfl, (bk h fun v2 NI h => (aS (amX _ _ _ NI) (.d (.d (sD h (fun DH h => ?_) (fun DH h => ?_))))))⟩⟩
 exact ata
 exact ata
 intro _ aaO a0 a1 r h
 refine gd Tryz.func37 ?_
 refine .d (.d (.d (.d (sD h (fun BZ h => ?_) (fun BZ h => ?_)))))
 exact ata
 obtain ⟨o7, ho8, hk9⟩ := bd h
 replace h := ho8
 refine .cut (fun σ η => ∃ y6, .inl y6 = o7 ∧ σ = [(1, .int .i64 y6)] ∧ η = []) ?_ ?_
 refine .d ?_
 have aaP := aaO _ _ _ _ h
 refine le (qG (motive := fun p24 hZ ie ZE => a0 = p24 → o7 = ZE → aG _ _ [(0, sl 4 ae.cells a0), (1, .int .i64 hZ), (5, .int .i64 ie)] []) ?_ a0 (aT (a1 - (a0.length : Int))) 0 o7 aaP rfl rfl) (tk [] ⟨.l, .i, .i, ⟨⟩⟩ ⟨⟩)
 intro _ Mw _ _ p24 hZ ie ZE h Db  Dc aaQ
 subst Dc
 subst aaQ
 refine aG.round (.d (.d (sD h (fun pT h => ?_) (fun pT h => ?_))))
 refine .d (.d (bk h fun nJ pZ h => ⟨aA pZ, _, (ax pZ).trans (ae.au nJ), (bk h fun yD IQ h => (aS (Mw _ _ _ IQ) (.d (sD h (fun wS h => ?_) (fun wS h => ?_)))))⟩))
 refine .d ?_
 obtain rfl := si h
 replace h := hk9
 exact eI h
 exact lg (Db _ _ _ _ h rfl rfl) (tk [] ⟨.l, .i, .i, ⟨⟩⟩ ⟨⟩)
 exact ath
 rintro _ _ ⟨y6, rfl, rfl, rfl⟩
 replace h := hk9
 exact ata
 intro F0 F1 lu lv a0 hZ ie o h
 exact .mk F0 lu F1 lv a0 hZ ie o h
theorem AW {a0 : ae} {a1 : Int} {r : Int} (h : jF a0 a1 = some r) : ACall Tryz.prog 10 [.agg a0.lit, .int .i64 a1] [] (fun res h => res = .int .i64 r ∧ h = []) := xc.1 a0 a1 r h
mutual
def gM (a0 : ae) : Option (ae) :=
 oR a0.ah >>= fun v1 =>
 some (ae.mk a0.ai a0.aD a0.aj v1)
partial_fixpoint
def oR (a0 : List ae) : Option ((List ae)) :=
 (xJ 56 (a0.length : Int) (a0.length : Int) : Option (List ae)) >>= fun l3 =>
 (
 gz a0 l3 0
 : Option ((List ae))) >>= fun l5 =>
 some l5
partial_fixpoint
def gz (a0 : List ae) (l9 : List ae) (hZ : Int) : Option ((List ae)) :=
 (if hZ < (a0.length : Int) then
 idx a0 hZ >>= fun r8 =>
 gM r8 >>= fun Jm =>
 idx l9 hZ >>= fun QY =>
 gz a0 (l9.set hZ.toNat Jm) (aT (hZ + 1))
 else
 some l9)
partial_fixpoint
end
def EB (a0 : ae) (r : ae) : Prop := ACall Tryz.prog 12 [.agg a0.lit] [] (fun res h => res = .agg r.lit ∧ h = [])
def UW (a0 : List ae) (r : (List ae)) : Prop := ACall Tryz.prog 40 [sl 4 ae.cells a0] [] (fun res h => res = sl 4 ae.cells r ∧ h = [])
inductive dM : (List ae) → (List ae) → Int → ((List ae)) → Prop
 | mk (G12 : ae → Option (ae)) (ap2 : ∀ a0 r, G12 a0 = some r → EB a0 r) (eW : (List ae) → (List ae) → Int → Option ((List ae))) (r9 : ∀ a0 l9 hZ o, eW a0 l9 hZ = some o → dM a0 l9 hZ o) (a0 : List ae) (l9 : List ae) (hZ : Int) (o : (List ae)) (h : (
 (if hZ < (a0.length : Int) then
 idx a0 hZ >>= fun r8 =>
 G12 r8 >>= fun Jm =>
 idx l9 hZ >>= fun QY =>
 eW a0 (l9.set hZ.toNat Jm) (aT (hZ + 1))
 else
 some l9)
 ) = some o) : dM a0 l9 hZ o
theorem qH {motive : (List ae) → (List ae) → Int → ((List ae)) → Prop} (step : ∀ (G12 : ae → Option (ae)) (ap2 : ∀ a0 r, G12 a0 = some r → EB a0 r) (eW : (List ae) → (List ae) → Int → Option ((List ae))) (r9 : ∀ a0 l9 hZ o, eW a0 l9 hZ = some o → dM a0 l9 hZ o) (a0 : List ae) (l9 : List ae) (hZ : Int) (o : (List ae)) (h : (
 (if hZ < (a0.length : Int) then
 idx a0 hZ >>= fun r8 =>
 G12 r8 >>= fun Jm =>
 idx l9 hZ >>= fun QY =>
 eW a0 (l9.set hZ.toNat Jm) (aT (hZ + 1))
 else
 some l9)
 ) = some o) (ih : ∀ a0 l9 hZ o, eW a0 l9 hZ = some o → motive a0 l9 hZ o), motive a0 l9 hZ o) : ∀ a0 l9 hZ o, dM a0 l9 hZ o → motive a0 l9 hZ o :=
 fun a0 l9 hZ o h => dM.rec (motive := fun a0 l9 hZ o _ => motive a0 l9 hZ o) step h
theorem xd : (∀ a0 r, gM a0 = some r → EB a0 r) ∧ (∀ a0 r, oR a0 = some r → UW a0 r) ∧ (∀ a0 l9 hZ o, gz a0 l9 hZ = some o → dM a0 l9 hZ o) := by
 refine gM.mutual_partial_correctness EB UW dM ?_ ?_ ?_
 intro _ amY a0 r h
 refine gd Tryz.func12 ?_
 refine .d (.d (.d ⟨rfl, ⟨rfl, _, rfl, ⟨rfl, ⟨rfl, _, fun _ => [.int .i64 a0.ai, .int .i64 0, .str [], .bf], rfl, bX rfl, (.d ⟨rfl, ⟨rfl, _, rfl, ⟨rfl, ⟨rfl, _, fun _ => [.int .i64 a0.ai, .int .i64 a0.aD, .str [], .bf], rfl, bX rfl, (.d ⟨rfl, ⟨rfl, _, rfl, ?_⟩⟩)⟩⟩⟩⟩)⟩⟩⟩⟩))
 refine ⟨rfl, ⟨rfl, _, fun _ => [.int .i64 a0.ai, .int .i64 a0.aD, .str a0.aj, .bf], rfl, bX rfl, (.d ⟨rfl, ⟨rfl, _, rfl, (bk h fun v1 lx h => (aS (amY _ _ lx) ⟨rfl, ⟨rfl, _, fun _ => [.int .i64 a0.ai, .int .i64 a0.aD, .str a0.aj, sl 4 ae.cells v1], rfl, bX rfl, (.d ⟨rfl, _, rfl, ⟨rfl, _, fun _ => [.int .i64 a0.ai, .int .i64 a0.aD, .str a0.aj, sl 4 ae.cells v1], rfl, bX rfl, ?_⟩⟩)⟩⟩))⟩⟩)⟩⟩
 obtain rfl := si h
 exact ⟨rfl, _, rfl, (en [] ⟨rfl, rfl⟩ (.amJ ⟨.i, .i, .s, .l, ⟨⟩⟩) ⟨⟩)⟩
 intro _ aaO a0 r h
 refine gd Tryz.func40 ?_
 refine .d (.d (bk h fun l3 hx4 h => ⟨Mp hx4, l3.length, row ae.cells l3, xV hx4, GO hx4 (ae.au default) ⟨.same _, .same _, .same _, .nil _ _, trivial⟩, ?_⟩))
 obtain ⟨o6, ho7, tz⟩ := bd h
 replace h := ho7
 refine .cut (fun σ η => ∃ l5, l5 = o6 ∧ σ = [(3, .own 0 0 0 l5.length)] ∧ η = [.row 0 4 l5.length 29 (row ae.cells l5)]) ?_ ?_
 refine .d ?_
 have aaP := aaO _ _ _ _ h
 refine le (qH (motive := fun p24 l9 hZ ZE => a0 = p24 → o6 = ZE → aG _ _ [(0, sl 4 ae.cells a0), (3, .own 0 0 0 l9.length), (4, .int .i64 hZ)] [.row 0 4 l9.length 29 (row ae.cells l9)]) ?_ a0 l3 0 o6 aaP rfl rfl) (tk [0] ⟨.l, .o, .i, ⟨⟩⟩ ⟨nw, ⟨⟩⟩)
 intro _ ap3 _ _ p24 l9 hZ ZE h ap4  Dc aaQ
 subst Dc
 subst aaQ
 refine aG.round (.d (.d (sD h (fun lU h => ?_) (fun lU h => ?_))))
 exact .d (bk h fun r8 BE h => ⟨aA BE, _, (ax BE).trans (ae.au r8), (bk h fun Jm YL h => (aS (ap3 _ _ YL) (bk h fun QY EP h => ⟨rfl, aA EP, _, ard _, ⟨rfl, _, row ae.cells (l9.set hZ.toNat Jm), ((ax EP).trans (ae.au QY)), P5 (Mo EP) (ae.au Jm) ⟨.same _, .same _, .same _, .same _, trivial⟩, (lg (ap4 _ _ _ _ h rfl rfl) (tk [0] ⟨.l, (.ox ln), .i, ⟨⟩⟩ ⟨(nwx rfl ln), ⟨⟩⟩))⟩⟩)))⟩)
 exact atp
 rintro _ _ ⟨l5, rfl, rfl, rfl⟩
 replace h := tz
 refine .d ?_
 obtain rfl := si h
 exact en [] ⟨rfl, rfl⟩ .r ⟨⟩
 intro F0 F1 lu lv a0 l9 hZ o h
 exact .mk F0 lu F1 lv a0 l9 hZ o h
theorem oL {a0 : ae} {r : ae} (h : gM a0 = some r) : ACall Tryz.prog 12 [.agg a0.lit] [] (fun res h => res = .agg r.lit ∧ h = []) := xd.1 a0 r h
mutual
def jG (a0 : ae) (a1 : ae) : Option (Bool) :=
 (if a0.ai = a1.ai then
 (if a0.aD = a1.aD then
 (if a0.aj = a1.aj then
 oS a0.ah a1.ah >>= fun v4 =>
 (if v4 = true then
 some true
 else
 some false)
 else
 some false)
 else
 some false)
 else
 some false)
partial_fixpoint
def oS (a0 : List ae) (a1 : List ae) : Option (Bool) :=
 (if (a0.length : Int) = (a1.length : Int) then
 ((
 gA a0 a1 0
 : Option ((Unit) ⊕ Bool)) >>= fun o8 => match o8 with
 | .inr r => some r
 | .inl _ =>
 some true
 )
 else
 some false)
partial_fixpoint
def gA (a0 : List ae) (a1 : List ae) (ie : Int) : Option ((Unit) ⊕ Bool) :=
 (if ie < (a0.length : Int) then
 idx a0 ie >>= fun nJ =>
 idx a1 ie >>= fun x19 =>
 jG nJ x19 >>= fun v21 =>
 (if v21 = true then
 gA a0 a1 (aT (ie + 1))
 else
 some (.inr false))
 else
 some (.inl ()))
partial_fixpoint
end
def EC (a0 : ae) (a1 : ae) (r : Bool) : Prop := ACall Tryz.prog 14 [.agg a0.lit, .agg a1.lit] [] (fun res h => res = .bool r ∧ h = [])
def UX (a0 : List ae) (a1 : List ae) (r : Bool) : Prop := ACall Tryz.prog 44 [sl 4 ae.cells a0, sl 4 ae.cells a1] [] (fun res h => res = .bool r ∧ h = [])
inductive dN : (List ae) → (List ae) → Int → ((Unit) ⊕ Bool) → Prop
 | mk (G14 : ae → ae → Option (Bool)) (Mw : ∀ a0 a1 r, G14 a0 a1 = some r → EC a0 a1 r) (eX : (List ae) → (List ae) → Int → Option ((Unit) ⊕ Bool)) (sc : ∀ a0 a1 ie o, eX a0 a1 ie = some o → dN a0 a1 ie o) (a0 : List ae) (a1 : List ae) (ie : Int) (o : (Unit) ⊕ Bool) (h : (
 (if ie < (a0.length : Int) then
 idx a0 ie >>= fun nJ =>
 idx a1 ie >>= fun x19 =>
 G14 nJ x19 >>= fun v21 =>
 (if v21 = true then
 eX a0 a1 (aT (ie + 1))
 else
 some (.inr false))
 else
 some (.inl ()))
 ) = some o) : dN a0 a1 ie o
theorem qI {motive : (List ae) → (List ae) → Int → ((Unit) ⊕ Bool) → Prop} (step : ∀ (G14 : ae → ae → Option (Bool)) (Mw : ∀ a0 a1 r, G14 a0 a1 = some r → EC a0 a1 r) (eX : (List ae) → (List ae) → Int → Option ((Unit) ⊕ Bool)) (sc : ∀ a0 a1 ie o, eX a0 a1 ie = some o → dN a0 a1 ie o) (a0 : List ae) (a1 : List ae) (ie : Int) (o : (Unit) ⊕ Bool) (h : (
 (if ie < (a0.length : Int) then
 idx a0 ie >>= fun nJ =>
 idx a1 ie >>= fun x19 =>
 G14 nJ x19 >>= fun v21 =>
 (if v21 = true then
 eX a0 a1 (aT (ie + 1))
 else
 some (.inr false))
 else
 some (.inl ()))
 ) = some o) (ih : ∀ a0 a1 ie o, eX a0 a1 ie = some o → motive a0 a1 ie o), motive a0 a1 ie o) : ∀ a0 a1 ie o, dN a0 a1 ie o → motive a0 a1 ie o :=
 fun a0 a1 ie o h => dN.rec (motive := fun a0 a1 ie o _ => motive a0 a1 ie o) step h
theorem xe : (∀ a0 a1 r, jG a0 a1 = some r → EC a0 a1 r) ∧ (∀ a0 a1 r, oS a0 a1 = some r → UX a0 a1 r) ∧ (∀ a0 a1 ie o, gA a0 a1 ie = some o → dN a0 a1 ie o) := by
 refine jG.mutual_partial_correctness EC UX dN ?_ ?_ ?_
 intro _ amZ a0 a1 r h
 refine gd Tryz.func14 ?_
 refine .d (.d (.d ⟨rfl, ⟨rfl, _, rfl, ⟨rfl, ⟨rfl, _, rfl, (sN h (fun lk h => ?_) (fun lk h => ?_))⟩⟩⟩⟩))
 exact atd
 refine .d (.d ⟨rfl, ⟨rfl, _, rfl, ⟨rfl, ⟨rfl, _, rfl, (sN h (fun nv h => ?_) (fun nv h => ?_))⟩⟩⟩⟩)
 exact atd
 refine .d (.d ⟨rfl, ⟨rfl, _, rfl, ⟨rfl, ⟨rfl, _, rfl, (VN h (fun ow h => ?_) (fun ow h => ?_))⟩⟩⟩⟩)
 exact atd
 refine .d (.d ⟨rfl, ⟨rfl, _, rfl, ⟨rfl, ⟨rfl, _, rfl, (bk h fun v4 tV h => (aS (amZ _ _ _ tV) (l8 h (fun xA h => ?_) (fun xA h => ?_))))⟩⟩⟩⟩)
 exact atd
 exact atd
 intro _ ap5 a0 a1 r h
 refine gd Tryz.func44 ?_
 refine .d (.d (.d (sN h (fun B2 h => ?_) (fun B2 h => ?_))))
 exact atd
 obtain ⟨o8, ho9, am0⟩ := bd h
 replace h := ho9
 refine .cut (fun σ η => .inl () = o8 ∧ σ = [] ∧ η = []) ?_ ?_
 refine .d ?_
 have ap6 := ap5 _ _ _ _ h
 refine le (qI (motive := fun p26 p27 ie o24 => a0 = p26 → a1 = p27 → o8 = o24 → aG _ _ [(0, sl 4 ae.cells a0), (1, sl 4 ae.cells a1), (5, .int .i64 ie)] []) ?_ a0 a1 0 o8 ap6 rfl rfl rfl) (tk [] ⟨.l, .l, .i, ⟨⟩⟩ ⟨⟩)
 intro _ Mw _ _ p26 p27 ie o24 h Db  aaR aaS ap7
 subst aaR
 subst aaS
 subst ap7
 refine aG.round (.d (.d (sD h (fun pT h => ?_) (fun pT h => ?_))))
 refine .d (.d (.float [(0, true), (1, true), (2, true), (3, true), (4, true), (5, true), (6, true), (7, true), (8, false), (9, true)] atD ?_))
 refine bk h fun nJ pZ h => ⟨aA pZ, _, (ax pZ).trans (ae.au nJ), (bk h fun x19 vR h => ⟨aA vR, _, (ax vR).trans (ae.au x19), (bk h fun v21 Z8 h => (aS (Mw _ _ _ Z8) (l8 h (fun GP h => ?_) (fun GP h => ?_))))⟩)⟩
 refine .d ?_
 obtain rfl := si h
 replace h := am0
 exact eB h
 exact lg (Db _ _ _ _ h rfl rfl rfl) (tk [] ⟨.l, .l, .i, ⟨⟩⟩ ⟨⟩)
 exact asZ
 rintro _ _ ⟨rfl, rfl, rfl⟩
 replace h := am0
 exact atd
 intro F0 F1 lu lv a0 a1 ie o h
 exact .mk F0 lu F1 lv a0 a1 ie o h
theorem AX {a0 : ae} {a1 : ae} {r : Bool} (h : jG a0 a1 = some r) : ACall Tryz.prog 14 [.agg a0.lit, .agg a1.lit] [] (fun res h => res = .bool r ∧ h = []) := xe.1 a0 a1 r h
def tW (a0 : Int) (a1 : Int) (a2 : Int) : Option (Bool) :=
 (if a0 ≥ a1 then
 some (decide (a0 ≤ a2))
 else
 some false)
theorem ny {a0 : Int} {a1 : Int} {a2 : Int} {r : Bool} (h : tW a0 a1 a2 = some r) : ACall Tryz.prog 146 [.int .i64 a0, .int .i64 a1, .int .i64 a2] [] (fun res h => res = .bool r ∧ h = []) := by
 refine gd Tryz.func146 ?_
 unfold tW at h
 refine .d (.d (sD h (fun lk h => ?_) (fun lk h => ?_)))
 exact .t (.t (.t (eB h)))
 exact atl
def EU (a0 : Int) (a1 : Int) (a2 : Int) : Option (Bool) :=
 (if a1 ≤ a0 then
 some (decide (a0 ≤ a2))
 else
 some false)
theorem Cu {a0 : Int} {a1 : Int} {a2 : Int} {r : Bool} (h : EU a0 a1 a2 = some r) : ACall Tryz.prog 135 [.int .i64 a0, .int .i64 a1, .int .i64 a2] [] (fun res h => res = .bool r ∧ h = []) := by
 refine gd Tryz.func135 ?_
 unfold EU at h
 refine .d (.d (sD h (fun lk h => ?_) (fun lk h => ?_)))
 exact .t (.t (.t (eB h)))
 exact atl
def j4 (a0 : Int) : Option (Bool) :=
 (if a0 ≥ 65 then
 (if a0 ≤ 90 then
 some true
 else
 (if a0 ≥ 97 then
 some (decide (a0 ≤ 122))
 else
 some false))
 else
 (if a0 ≥ 97 then
 some (decide (a0 ≤ 122))
 else
 some false))
theorem xf {a0 : Int} {r : Bool} (h : j4 a0 = some r) : ACall Tryz.prog 206 [.int .u8 a0] [] (fun res h => res = .bool r ∧ h = []) := by
 refine gd Tryz.func206 ?_
 unfold j4 at h
 refine .d (.d (sD h (fun lk h => ?_) (fun lk h => ?_)))
 refine .t (.t (sD h (fun nv h => ?_) (fun nv h => ?_)))
 exact .t (.t (.t (.t (eB h))))
 refine .f (.f (sD h (fun ow h => ?_) (fun ow h => ?_)))
 exact .t (.f (.t (.f (eB h))))
 exact .f (.f (.f (.f (eB h))))
 refine .f (.f (.f (.f (.f (sD h (fun DH h => ?_) (fun DH h => ?_))))))
 exact .t (.f (.t (.f (eB h))))
 exact .f (.f (.f (.f (eB h))))
def kM (a0 : Int) : Option (Bool) :=
 (if a0 ≥ 48 then
 some (decide (a0 ≤ 57))
 else
 some false)
theorem zE {a0 : Int} {r : Bool} (h : kM a0 = some r) : ACall Tryz.prog 172 [.int .u8 a0] [] (fun res h => res = .bool r ∧ h = []) := by
 refine gd Tryz.func172 ?_
 unfold kM at h
 refine .d (.d (sD h (fun lk h => ?_) (fun lk h => ?_)))
 exact .t (.t (eB h))
 exact .f (.f (eB h))
def jw (a0 : Int) : Option (Bool) :=
 tW (aT (a0)) 97 122 >>= fun v1 =>
 (if v1 = true then
 some true
 else
 tW (aT (a0)) 65 90 >>= fun v4 =>
 (if v4 = true then
 some true
 else
 some (a0 == 95)))
theorem vT {a0 : Int} {r : Bool} (h : jw a0 = some r) : ACall Tryz.prog 161 [.int .u8 a0] [] (fun res h => res = .bool r ∧ h = []) := by
 refine gd Tryz.func161 ?_
 unfold jw at h
 refine .d (.d (bk h fun v1 lx h => (aS (ny lx) (sV h (fun ow h => ?_) (fun ow h => ?_)))))
 exact .t (.t (.t (.t (.t (.t (eB h))))))
 refine .f (.f (bk h fun v4 tV h => (aS (ny tV) (.f (sV h (fun xA h => ?_) (fun xA h => ?_))))))
 exact .t (.t (eB h))
 exact .f (.f (eB h))
def j5 (a0 : Int) : Option (Bool) :=
 tW (aT (a0)) 48 57 >>= fun v1 =>
 some v1
theorem xg {a0 : Int} {r : Bool} (h : j5 a0 = some r) : ACall Tryz.prog 162 [.int .u8 a0] [] (fun res h => res = .bool r ∧ h = []) := by
 refine gd Tryz.func162 ?_
 unfold j5 at h
 exact .d (.d (bk h fun v1 lx h => (aS (ny lx) (eB h))))
def cu (a0 : ar) (y5 : Int) : Option (Int) :=
 (if y5 < (a0.length : Int) then
 nE a0 y5 >>= fun c9 =>
 j4 (c9.toNat : Int) >>= fun v11 =>
 (if v11 = true then
 cu a0 (aT (y5 + 1))
 else
 nE a0 y5 >>= fun c14 =>
 (if (c14.toNat : Int) = 95 then
 cu a0 (aT (y5 + 1))
 else
 (if y5 > 0 then
 nE a0 y5 >>= fun c18 =>
 kM (c18.toNat : Int) >>= fun v20 =>
 (if v20 = true then
 cu a0 (aT (y5 + 1))
 else
 some y5)
 else
 some y5)))
 else
 some y5)
partial_fixpoint
def gx (a0 : ar) : Option (Int) :=
 (
 cu a0 0
 : Option (Int)) >>= fun y1 =>
 some y1
theorem uo {a0 : ar} {r : Int} (h : gx a0 = some r) : ACall Tryz.prog 171 [.str a0] [] (fun res h => res = .int .i64 r ∧ h = []) := by
 refine gd Tryz.func171 ?_
 unfold gx at h
 refine .d (.d ?_)
 obtain ⟨o2, uG, uH⟩ := bd h
 replace h := uG
 refine .cut (fun σ η => ∃ y1, y1 = o2 ∧ σ = [(3, .int .i64 y1)] ∧ η = []) ?_ ?_
 refine le (cu.partial_correctness a0 (motive := fun y5 o23 => o2 = o23 → aG _ _ [(0, .str a0), (3, .int .i64 y5)] []) ?_ 0 o2 h rfl) (tk [] ⟨.s, .i, ⟨⟩⟩ ⟨⟩)
 intro F7 ih6 y5 o23 h ap8
 subst ap8
 refine aG.round (.d (.d (sD h (fun DL h => ?_) (fun DL h => ?_))))
 refine .t (.t (bk h fun c9 Mx h => ⟨gP Mx, c9, gQ Mx, (.t (bk h fun v11 CO h => (aS (xf CO) (.t (sV h (fun wM h => ?_) (fun wM h => ?_))))))⟩))
 exact .t (.t (.t (.t (.t (.t (.t (.t (.t (.t (.t (.t (.t (.t (lg (ih6 _ _ h rfl) (tk [] ⟨.s, .i, ⟨⟩⟩ ⟨⟩)))))))))))))))
 refine .f (.f (bk h fun c14 My h => ⟨gP My, c14, gQ My, (.f (.t (.f (.t (sE h (fun pT h => ?_) (fun pT h => ?_))))))⟩))
 exact .t (.t (.t (.t (.t (.t (.t (lg (ih6 _ _ h rfl) (tk [] ⟨.s, .i, ⟨⟩⟩ ⟨⟩))))))))
 refine .f (.f (sD h (fun ri h => ?_) (fun ri h => ?_)))
 refine .t (.t (bk h fun c18 Iv h => ⟨gP Iv, c18, gQ Iv, (.t (bk h fun v20 ap9 h => (aS (zE ap9) (.f (.t (.t (.f (.t (sV h (fun Ap h => ?_) (fun Ap h => ?_))))))))))⟩))
 exact lg (ih6 _ _ h rfl) (tk [] ⟨.s, .i, ⟨⟩⟩ ⟨⟩)
 exact ath
 exact .f (.f (.f (.f (.f (.t (.f (.t (.f (ct ⟨_, si h, rfl, rfl⟩ (tk [] ⟨.i, ⟨⟩⟩ ⟨⟩))))))))))
 exact .f (.f (.f (.f (.f (.f (.f (.f (.f (ct ⟨_, si h, rfl, rfl⟩ (tk [] ⟨.i, ⟨⟩⟩ ⟨⟩))))))))))
 exact asQ
def kx (a0 : ar) : Option (Bool) :=
 (if (a0.length : Int) ≤ 20 then
 gx a0 >>= fun v2 =>
 (if v2 = (a0.length : Int) then
 some (!(a0 == ([] : ar)))
 else
 some false)
 else
 some false)
theorem BF {a0 : ar} {r : Bool} (h : kx a0 = some r) : ACall Tryz.prog 196 [.str a0] [] (fun res h => res = .bool r ∧ h = []) := by
 refine gd Tryz.func196 ?_
 unfold kx at h
 refine .d (.d (sD h (fun lk h => ?_) (fun lk h => ?_)))
 refine .t (bk h fun v2 NI h => (aS (uo NI) (.t (.t (.t (.t (sE h (fun DH h => ?_) (fun DH h => ?_))))))))
 exact .t (.t (eB h))
 exact .f (.f (eB h))
 exact atr
def iT (a0 : ar) : Option (Bool) :=
 (if a0 = ([101, 99, 104, 111] : ar) then
 some true
 else
 (if a0 = ([105, 102] : ar) then
 some true
 else
 (if a0 = ([101, 108, 115, 101] : ar) then
 some true
 else
 (if a0 = ([119, 104, 105, 108, 101] : ar) then
 some true
 else
 (if a0 = ([102, 111, 114, 101, 97, 99, 104] : ar) then
 some true
 else
 (if a0 = ([97, 115] : ar) then
 some true
 else
 (if a0 = ([98, 114, 101, 97, 107] : ar) then
 some true
 else
 (if a0 = ([99, 111, 110, 116, 105, 110, 117, 101] : ar) then
 some true
 else
 (if a0 = ([114, 101, 116, 117, 114, 110] : ar) then
 some true
 else
 (if a0 = ([103, 108, 111, 98, 97, 108] : ar) then
 some true
 else
 (if a0 = ([117, 110, 115, 101, 116] : ar) then
 some true
 else
 (if a0 = ([116, 104, 114, 111, 119] : ar) then
 some true
 else
 (if a0 = ([116, 114, 121] : ar) then
 some true
 else
 (if a0 = ([99, 97, 116, 99, 104] : ar) then
 some true
 else
 (if a0 = ([102, 105, 110, 97, 108, 108, 121] : ar) then
 some true
 else
 (if a0 = ([121, 105, 101, 108, 100] : ar) then
 some true
 else
 (if a0 = ([105, 110, 99, 108, 117, 100, 101] : ar) then
 some true
 else
 (if a0 = ([102, 117, 110, 99, 116, 105, 111, 110] : ar) then
 some true
 else
 (if a0 = ([99, 108, 97, 115, 115] : ar) then
 some true
 else
 (if a0 = ([116, 114, 97, 105, 116] : ar) then
 some true
 else
 (if a0 = ([101, 120, 116, 101, 110, 100, 115] : ar) then
 some true
 else
 (if a0 = ([117, 115, 101] : ar) then
 some true
 else
 (if a0 = ([112, 114, 105, 118, 97, 116, 101] : ar) then
 some true
 else
 (if a0 = ([115, 116, 97, 116, 105, 99] : ar) then
 some true
 else
 (if a0 = ([110, 101, 119] : ar) then
 some true
 else
 (if a0 = ([116, 114, 117, 101] : ar) then
 some true
 else
 (if a0 = ([102, 97, 108, 115, 101] : ar) then
 some true
 else
 (if a0 = ([110, 117, 108, 108] : ar) then
 some true
 else
 some false))))))))))))))))))))))))))))
theorem uq {a0 : ar} {r : Bool} (h : iT a0 = some r) : ACall Tryz.prog 197 [.str a0] [] (fun res h => res = .bool r ∧ h = []) := by
 refine gd Tryz.func197 ?_
 unfold iT at h
 refine .d (.d (.d (.d (.d (sE h (fun lk h => ?_) (fun lk h => ?_))))))
 exact .kt lk (.d (eB h))
 refine .d (sE h (fun nv h => ?_) (fun nv h => ?_))
 exact .kt nv (.d (eB h))
 refine .d (sE h (fun ow h => ?_) (fun ow h => ?_))
 exact .kt ow (.d (eB h))
 refine .d (sE h (fun DH h => ?_) (fun DH h => ?_))
 exact .kt DH (.d (eB h))
 refine .d (sE h (fun BZ h => ?_) (fun BZ h => ?_))
 exact .kt BZ (.d (eB h))
 refine .d (sE h (fun xA h => ?_) (fun xA h => ?_))
 exact .kt xA (.d (eB h))
 refine .d (sE h (fun B2 h => ?_) (fun B2 h => ?_))
 exact .kt B2 (.d (eB h))
 refine .d (sE h (fun DL h => ?_) (fun DL h => ?_))
 exact .kt DL (.d (eB h))
 refine .d (sE h (fun B1 h => ?_) (fun B1 h => ?_))
 exact .kt B1 (.d (eB h))
 refine .d (sE h (fun lT h => ?_) (fun lT h => ?_))
 exact .kt lT (.d (eB h))
 refine .d (sE h (fun qZ h => ?_) (fun qZ h => ?_))
 exact .kt qZ (.d (eB h))
 refine .d (sE h (fun oa h => ?_) (fun oa h => ?_))
 exact .kt oa (.d (eB h))
 refine .d (sE h (fun wM h => ?_) (fun wM h => ?_))
 exact .kt wM (.d (eB h))
 refine .d (sE h (fun ua h => ?_) (fun ua h => ?_))
 exact .kt ua (.d (eB h))
 refine .d (sE h (fun lU h => ?_) (fun lU h => ?_))
 exact .kt lU (.d (eB h))
 refine .d (sE h (fun pT h => ?_) (fun pT h => ?_))
 exact .kt pT (.d (eB h))
 refine .d (sE h (fun ri h => ?_) (fun ri h => ?_))
 exact .kt ri (.d (eB h))
 refine .d (sE h (fun wR h => ?_) (fun wR h => ?_))
 exact .kt wR (.d (eB h))
 refine .d (sE h (fun zb h => ?_) (fun zb h => ?_))
 exact .kt zb (.d (eB h))
 refine .d (sE h (fun wY h => ?_) (fun wY h => ?_))
 exact .kt wY (.d (eB h))
 refine .d (sE h (fun wS h => ?_) (fun wS h => ?_))
 exact .kt wS (.d (eB h))
 refine .d (sE h (fun Ap h => ?_) (fun Ap h => ?_))
 exact .kt Ap (.d (eB h))
 refine .d (sE h (fun GP h => ?_) (fun GP h => ?_))
 exact .kt GP (.d (eB h))
 refine .d (sE h (fun NQ h => ?_) (fun NQ h => ?_))
 exact .kt NQ (.d (eB h))
 refine .d (sE h (fun Fx h => ?_) (fun Fx h => ?_))
 exact .kt Fx (.d (eB h))
 refine .d (sE h (fun am1 h => ?_) (fun am1 h => ?_))
 exact .kt am1 (.d (eB h))
 refine .d (sE h (fun NR h => ?_) (fun NR h => ?_))
 exact .kt NR (.d (eB h))
 refine sE h (fun aaT h => ?_) (fun aaT h => ?_)
 exact atd
 exact atd
def a8 (a0 : ar) : Option (Bool) :=
 kx a0 >>= fun v1 =>
 (if v1 = true then
 iT a0 >>= fun v4 =>
 some (!v4)
 else
 some false)
theorem cj {a0 : ar} {r : Bool} (h : a8 a0 = some r) : ACall Tryz.prog 133 [.str a0] [] (fun res h => res = .bool r ∧ h = []) := by
 refine gd Tryz.func133 ?_
 unfold a8 at h
 refine .d (.d (bk h fun v1 lx h => (aS (BF lx) (sV h (fun ow h => ?_) (fun ow h => ?_)))))
 exact .t (bk h fun v4 tV h => (aS (uq tV) (.t (.t (eB h)))))
 exact atl
def gw (a0 : ar) (a1 : Int) (y5 : Int) : Option (Int) :=
 (if y5 < (a0.length : Int) then
 nE a0 y5 >>= fun c9 =>
 jw (c9.toNat : Int) >>= fun v11 =>
 (if v11 = true then
 gw a0 a1 (aT (y5 + 1))
 else
 (if y5 > a1 then
 nE a0 y5 >>= fun BG =>
 j5 (BG.toNat : Int) >>= fun v17 =>
 (if v17 = true then
 gw a0 a1 (aT (y5 + 1))
 else
 some y5)
 else
 some y5))
 else
 some y5)
partial_fixpoint
def kN (a0 : ar) (a1 : Int) : Option (Int) :=
 (
 gw a0 a1 a1
 : Option (Int)) >>= fun y1 =>
 some y1
theorem zF {a0 : ar} {a1 : Int} {r : Int} (h : kN a0 a1 = some r) : ACall Tryz.prog 160 [.str a0, .int .i64 a1] [] (fun res h => res = .int .i64 r ∧ h = []) := by
 refine gd Tryz.func160 ?_
 unfold kN at h
 refine .d (.d ?_)
 obtain ⟨o2, uG, uH⟩ := bd h
 replace h := uG
 refine .cut (fun σ η => ∃ y1, y1 = o2 ∧ σ = [(5, .int .i64 y1)] ∧ η = []) ?_ ?_
 refine le (gw.partial_correctness a0 a1 (motive := fun y5 o20 => o2 = o20 → aG _ _ [(0, .str a0), (1, .int .i64 a1), (5, .int .i64 y5)] []) ?_ a1 o2 h rfl) (tk [] ⟨.s, .i, .i, ⟨⟩⟩ ⟨⟩)
 intro F7 ih6 y5 o20 h aqa
 subst aqa
 refine aG.round (.d (.d (sD h (fun DL h => ?_) (fun DL h => ?_))))
 refine .t (.t (bk h fun c9 Mx h => ⟨gP Mx, c9, gQ Mx, (.t (bk h fun v11 CO h => (aS (vT CO) (.t (sV h (fun wM h => ?_) (fun wM h => ?_))))))⟩))
 exact .t (.t (.t (.t (.t (.t (.t (.t (lg (ih6 _ _ h rfl) (tk [] ⟨.s, .i, .i, ⟨⟩⟩ ⟨⟩)))))))))
 refine .f (.f (.f (sD h (fun ua h => ?_) (fun ua h => ?_))))
 refine .t (.t (bk h fun BG BH h => ⟨gP BH, BG, gQ BH, (.t (bk h fun v17 aqb h => (aS (xg aqb) (.f (.t (.t (.f (.t (sV h (fun zb h => ?_) (fun zb h => ?_))))))))))⟩))
 exact lg (ih6 _ _ h rfl) (tk [] ⟨.s, .i, .i, ⟨⟩⟩ ⟨⟩)
 exact ath
 exact .f (.f (.f (.f (.f (.t (.f (.t (.f (ct ⟨_, si h, rfl, rfl⟩ (tk [] ⟨.i, ⟨⟩⟩ ⟨⟩))))))))))
 exact .f (.f (.f (.f (.f (.f (.f (ct ⟨_, si h, rfl, rfl⟩ (tk [] ⟨.i, ⟨⟩⟩ ⟨⟩))))))))
 exact asQ
def lF (a0 : ar) : Option (Bool) :=
 (if (a0.length : Int) ≥ 1 then
 (if (a0.length : Int) ≤ 20 then
 kN a0 0 >>= fun v3 =>
 some (v3 == (a0.length : Int))
 else
 some false)
 else
 some false)
theorem BI {a0 : ar} {r : Bool} (h : lF a0 = some r) : ACall Tryz.prog 199 [.str a0] [] (fun res h => res = .bool r ∧ h = []) := by
 refine gd Tryz.func199 ?_
 unfold lF at h
 refine .d (.d (sD h (fun lk h => ?_) (fun lk h => ?_)))
 refine .t (.t (.t (sD h (fun nv h => ?_) (fun nv h => ?_))))
 exact .t (bk h fun v3 hv4 h => (aS (zF hv4) (.t (.t (.t (.t (eB h)))))))
 exact .f (.f (.f (.f (.f (eB h)))))
 exact .f (.f (.f (.f (.f (.f (.f (.f (.f (eB h)))))))))
def fV (a0 : ar) (y4 : Int) : Option ((Unit) ⊕ Bool) :=
 (if y4 < (([[101, 99, 104, 111], [105, 102], [101, 108, 115, 101], [119, 104, 105, 108, 101], [102, 111, 114, 101, 97, 99, 104], [97, 115], [98, 114, 101, 97, 107], [99, 111, 110, 116, 105, 110, 117, 101], [114, 101, 116, 117, 114, 110], [103, 108, 111, 98, 97, 108], [117, 110, 115, 101, 116], [116, 104, 114, 111, 119], [116, 114, 121], [99, 97, 116, 99, 104], [102, 105, 110, 97, 108, 108, 121], [121, 105, 101, 108, 100], [105, 110, 99, 108, 117, 100, 101], [102, 117, 110, 99, 116, 105, 111, 110], [99, 108, 97, 115, 115], [116, 114, 97, 105, 116], [101, 120, 116, 101, 110, 100, 115], [117, 115, 101], [112, 114, 105, 118, 97, 116, 101], [115, 116, 97, 116, 105, 99], [110, 101, 119], [116, 114, 117, 101], [102, 97, 108, 115, 101], [110, 117, 108, 108]] : List ar).length : Int) then
 idx ([[101, 99, 104, 111], [105, 102], [101, 108, 115, 101], [119, 104, 105, 108, 101], [102, 111, 114, 101, 97, 99, 104], [97, 115], [98, 114, 101, 97, 107], [99, 111, 110, 116, 105, 110, 117, 101], [114, 101, 116, 117, 114, 110], [103, 108, 111, 98, 97, 108], [117, 110, 115, 101, 116], [116, 104, 114, 111, 119], [116, 114, 121], [99, 97, 116, 99, 104], [102, 105, 110, 97, 108, 108, 121], [121, 105, 101, 108, 100], [105, 110, 99, 108, 117, 100, 101], [102, 117, 110, 99, 116, 105, 111, 110], [99, 108, 97, 115, 115], [116, 114, 97, 105, 116], [101, 120, 116, 101, 110, 100, 115], [117, 115, 101], [112, 114, 105, 118, 97, 116, 101], [115, 116, 97, 116, 105, 99], [110, 101, 119], [116, 114, 117, 101], [102, 97, 108, 115, 101], [110, 117, 108, 108]] : List ar) y4 >>= fun x8 =>
 (if x8 = a0 then
 some (.inr true)
 else
 fV a0 (aT (y4 + 1)))
 else
 some (.inl ()))
partial_fixpoint
def iS (a0 : ar) : Option (Bool) :=
 ((
 fV a0 0
 : Option ((Unit) ⊕ Bool)) >>= fun o1 => match o1 with
 | .inr r => some r
 | .inl _ =>
 some false
 )
theorem ur {a0 : ar} {r : Bool} (h : iS a0 = some r) : ACall Tryz.prog 200 [.str a0] [] (fun res h => res = .bool r ∧ h = []) := by
 refine gd Tryz.func200 ?_
 unfold iS at h
 refine .d (.d ⟨row cS ([[101, 99, 104, 111], [105, 102], [101, 108, 115, 101], [119, 104, 105, 108, 101], [102, 111, 114, 101, 97, 99, 104], [97, 115], [98, 114, 101, 97, 107], [99, 111, 110, 116, 105, 110, 117, 101], [114, 101, 116, 117, 114, 110], [103, 108, 111, 98, 97, 108], [117, 110, 115, 101, 116], [116, 104, 114, 111, 119], [116, 114, 121], [99, 97, 116, 99, 104], [102, 105, 110, 97, 108, 108, 121], [121, 105, 101, 108, 100], [105, 110, 99, 108, 117, 100, 101], [102, 117, 110, 99, 116, 105, 111, 110], [99, 108, 97, 115, 115], [116, 114, 97, 105, 116], [101, 120, 116, 101, 110, 100, 115], [117, 115, 101], [112, 114, 105, 118, 97, 116, 101], [115, 116, 97, 116, 105, 99], [110, 101, 119], [116, 114, 117, 101], [102, 97, 108, 115, 101], [110, 117, 108, 108]] : List ar), aC cS ([[101, 99, 104, 111], [105, 102], [101, 108, 115, 101], [119, 104, 105, 108, 101], [102, 111, 114, 101, 97, 99, 104], [97, 115], [98, 114, 101, 97, 107], [99, 111, 110, 116, 105, 110, 117, 101], [114, 101, 116, 117, 114, 110], [103, 108, 111, 98, 97, 108], [117, 110, 115, 101, 116], [116, 104, 114, 111, 119], [116, 114, 121], [99, 97, 116, 99, 104], [102, 105, 110, 97, 108, 108, 121], [121, 105, 101, 108, 100], [105, 110, 99, 108, 117, 100, 101], [102, 117, 110, 99, 116, 105, 111, 110], [99, 108, 97, 115, 115], [116, 114, 97, 105, 116], [101, 120, 116, 101, 110, 100, 115], [117, 115, 101], [112, 114, 105, 118, 97, 116, 101], [115, 116, 97, 116, 105, 99], [110, 101, 119], [116, 114, 117, 101], [102, 97, 108, 115, 101], [110, 117, 108, 108]] : List ar) rfl (aB rfl), ?_⟩)
 obtain ⟨o1, N7, gL⟩ := bd h
 replace h := N7
 refine .cut (fun σ η => .inl () = o1 ∧ σ = [] ∧ η = []) ?_ ?_
 refine .d ?_
 refine le (fV.partial_correctness a0 (motive := fun y4 o11 => o1 = o11 → aG _ _ [(0, .str a0), (3, .own 0 0 0 ([[101, 99, 104, 111], [105, 102], [101, 108, 115, 101], [119, 104, 105, 108, 101], [102, 111, 114, 101, 97, 99, 104], [97, 115], [98, 114, 101, 97, 107], [99, 111, 110, 116, 105, 110, 117, 101], [114, 101, 116, 117, 114, 110], [103, 108, 111, 98, 97, 108], [117, 110, 115, 101, 116], [116, 104, 114, 111, 119], [116, 114, 121], [99, 97, 116, 99, 104], [102, 105, 110, 97, 108, 108, 121], [121, 105, 101, 108, 100], [105, 110, 99, 108, 117, 100, 101], [102, 117, 110, 99, 116, 105, 111, 110], [99, 108, 97, 115, 115], [116, 114, 97, 105, 116], [101, 120, 116, 101, 110, 100, 115], [117, 115, 101], [112, 114, 105, 118, 97, 116, 101], [115, 116, 97, 116, 105, 99], [110, 101, 119], [116, 114, 117, 101], [102, 97, 108, 115, 101], [110, 117, 108, 108]] : List ar).length), (4, .int .i64 y4)] [.row 0 1 ([[101, 99, 104, 111], [105, 102], [101, 108, 115, 101], [119, 104, 105, 108, 101], [102, 111, 114, 101, 97, 99, 104], [97, 115], [98, 114, 101, 97, 107], [99, 111, 110, 116, 105, 110, 117, 101], [114, 101, 116, 117, 114, 110], [103, 108, 111, 98, 97, 108], [117, 110, 115, 101, 116], [116, 104, 114, 111, 119], [116, 114, 121], [99, 97, 116, 99, 104], [102, 105, 110, 97, 108, 108, 121], [121, 105, 101, 108, 100], [105, 110, 99, 108, 117, 100, 101], [102, 117, 110, 99, 116, 105, 111, 110], [99, 108, 97, 115, 115], [116, 114, 97, 105, 116], [101, 120, 116, 101, 110, 100, 115], [117, 115, 101], [112, 114, 105, 118, 97, 116, 101], [115, 116, 97, 116, 105, 99], [110, 101, 119], [116, 114, 117, 101], [102, 97, 108, 115, 101], [110, 117, 108, 108]] : List ar).length 9 (row cS ([[101, 99, 104, 111], [105, 102], [101, 108, 115, 101], [119, 104, 105, 108, 101], [102, 111, 114, 101, 97, 99, 104], [97, 115], [98, 114, 101, 97, 107], [99, 111, 110, 116, 105, 110, 117, 101], [114, 101, 116, 117, 114, 110], [103, 108, 111, 98, 97, 108], [117, 110, 115, 101, 116], [116, 104, 114, 111, 119], [116, 114, 121], [99, 97, 116, 99, 104], [102, 105, 110, 97, 108, 108, 121], [121, 105, 101, 108, 100], [105, 110, 99, 108, 117, 100, 101], [102, 117, 110, 99, 116, 105, 111, 110], [99, 108, 97, 115, 115], [116, 114, 97, 105, 116], [101, 120, 116, 101, 110, 100, 115], [117, 115, 101], [112, 114, 105, 118, 97, 116, 101], [115, 116, 97, 116, 105, 99], [110, 101, 119], [116, 114, 117, 101], [102, 97, 108, 115, 101], [110, 117, 108, 108]] : List ar))]) ?_ 0 o1 h rfl) (tk [0] ⟨.s, .o, .i, ⟨⟩⟩ ⟨nw, ⟨⟩⟩)
 intro F6 ih5 y4 o11 h aqc
 subst aqc
 refine aG.round (.d (.d ⟨rfl, (sD h (fun B2 h => ?_) (fun B2 h => ?_))⟩))
 refine .d (.d (bk h fun x8 Q5 h => ⟨rfl, aA Q5, _, ard _, ⟨rfl, _, ((ax Q5).trans rfl), (sE h (fun lT h => ?_) (fun lT h => ?_))⟩⟩))
 refine .d ?_
 exact asJ
 exact lg (ih5 _ _ h rfl) (tk [0] ⟨.s, .o, .i, ⟨⟩⟩ ⟨nw, ⟨⟩⟩)
 exact asZ
 rintro _ _ ⟨rfl, rfl, rfl⟩
 replace h := gL
 exact atd
def cc (a0 : ar) : Option (Bool) :=
 lF a0 >>= fun v1 =>
 (if v1 = true then
 iS a0 >>= fun v4 =>
 some (!v4)
 else
 some false)
theorem dP {a0 : ar} {r : Bool} (h : cc a0 = some r) : ACall Tryz.prog 147 [.str a0] [] (fun res h => res = .bool r ∧ h = []) := by
 refine gd Tryz.func147 ?_
 unfold cc at h
 refine .d (.d (bk h fun v1 lx h => (aS (BI lx) (sV h (fun ow h => ?_) (fun ow h => ?_)))))
 exact .t (bk h fun v4 tV h => (aS (ur tV) (.t (.t (eB h)))))
 exact atl
set_option maxRecDepth 100000
def Vi (a0 : Int) (a1 : Int) : Option (Int) :=
 (if a1 > a0 then
 some a1
 else
 some a0)
theorem anj {a0 : Int} {a1 : Int} {r : Int} (h : Vi a0 a1 = some r) : ACall Tryz.prog 71 [.int .i64 a0, .int .i64 a1] [] (fun res h => res = .int .i64 r ∧ h = []) := by
 refine gd Tryz.func71 ?_
 unfold Vi at h
 refine .d (.d (.d (sD h (fun lk h => ?_) (fun lk h => ?_))))
 exact ata
 exact ata
def Vp (a0 : Int) (a1 : Int) : Option (Int) :=
 (if a1 > a0 then
 some a1
 else
 some a0)
theorem anm {a0 : Int} {a1 : Int} {r : Int} (h : Vp a0 a1 = some r) : ACall Tryz.prog 195 [.int .i64 a0, .int .i64 a1] [] (fun res h => res = .int .i64 r ∧ h = []) := by
 refine gd Tryz.func195 ?_
 unfold Vp at h
 refine .d (.d (.d (sD h (fun lk h => ?_) (fun lk h => ?_))))
 exact ata
 exact ata
def mS (a0 : ar) (a1 : Int) (a2 : ar) : Option (Bool) :=
 (if (a2.length : Int) ≤ (aT ((a0.length : Int) - a1)) then
 E8 a0 a1 (aT (a1 + (a2.length : Int))) >>= fun s2 =>
 some (s2 == a2)
 else
 some false)
theorem Dd {a0 : ar} {a1 : Int} {a2 : ar} {r : Bool} (h : mS a0 a1 a2 = some r) : ACall Tryz.prog 100 [.str a0, .int .i64 a1, .str a2] [] (fun res h => res = .bool r ∧ h = []) := by
 refine gd Tryz.func100 ?_
 unfold mS at h
 refine .d (.d (sD h (fun lk h => ?_) (fun lk h => ?_)))
 exact .t (.t (.t (.t (.t (.t (bk h fun s2 hx3 h => ⟨Ev hx3, s2, Ew hx3, (.t (.t (.t (eB h))))⟩))))))
 exact .f (.f (.f (.f (.f (.f (.f (.f (.f (eB h)))))))))
def gV (a0 : ar) (y4 : Int) : Option ((Unit) ⊕ (ar × ar)) :=
 (if (aT (y4 + 1)) < (a0.length : Int) then
 E8 a0 y4 (aT (y4 + 2)) >>= fun s8 =>
 (if s8 = ([58, 58] : ar) then
 sto a0 y4 >>= fun s11 =>
 DU a0 (aT (y4 + 2)) >>= fun Nj =>
 some (.inr (s11, Nj))
 else
 gV a0 (aT (y4 + 1)))
 else
 some (.inl ()))
partial_fixpoint
def j7 (a0 : ar) : Option (ar × ar) :=
 ((
 gV a0 0
 : Option ((Unit) ⊕ (ar × ar))) >>= fun o1 => match o1 with
 | .inr r => some r
 | .inl _ =>
 some ([], [])
 )
theorem xh {a0 : ar} {r : ar × ar} (h : j7 a0 = some r) : ACall Tryz.prog 148 [.str a0] [] (fun res h => res = .aU [.str r.1, .str r.2] ∧ h = []) := by
 refine gd Tryz.func148 ?_
 unfold j7 at h
 refine .d ?_
 obtain ⟨o1, N7, gL⟩ := bd h
 replace h := N7
 refine .cut (fun σ η => .inl () = o1 ∧ σ = [] ∧ η = []) ?_ ?_
 refine .d ?_
 refine le (gV.partial_correctness a0 (motive := fun y4 o15 => o1 = o15 → aG _ _ [(0, .str a0), (4, .int .i64 y4)] []) ?_ 0 o1 h rfl) (tk [] ⟨.s, .i, ⟨⟩⟩ ⟨⟩)
 intro F6 ih5 y4 o15 h Vo
 subst Vo
 refine aG.round (.d (.d (sD h (fun B2 h => ?_) (fun B2 h => ?_))))
 refine .d (.d (bk h fun s8 Q5 h => ⟨Ev Q5, s8, Ew Q5, (sE h (fun lT h => ?_) (fun lT h => ?_))⟩))
 refine .d (bk h fun s11 uI h => ⟨aaG uI, s11, aaH uI, (bk h fun Nj xi h => ⟨Ml xi, Nj, Mm xi, ?_⟩)⟩)
 obtain rfl := si h
 replace h := gL
 obtain rfl := si h
 exact en [] ⟨rfl, rfl⟩ (.bq ⟨.s, .s, ⟨⟩⟩) ⟨⟩
 exact lg (ih5 _ _ h rfl) (tk [] ⟨.s, .i, ⟨⟩⟩ ⟨⟩)
 exact asZ
 rintro _ _ ⟨rfl, rfl, rfl⟩
 replace h := gL
 refine .d ?_
 obtain rfl := si h
 exact en [] ⟨rfl, rfl⟩ (.bq ⟨.s, .s, ⟨⟩⟩) ⟨⟩
def ko (a0 : List ar) (a1 : Int) : Option (ar) :=
 tW a1 0 (aT ((a0.length : Int) - 1)) >>= fun v1 =>
 (if v1 = true then
 idx a0 a1 >>= fun x4 =>
 some x4
 else
 some [])
theorem tC {a0 : List ar} {a1 : Int} {r : ar} (h : ko a0 a1 = some r) : ACall Tryz.prog 86 [sl 1 cS a0, .int .i64 a1] [] (fun res h => res = .str r ∧ h = []) := by
 refine gd Tryz.func86 ?_
 unfold ko at h
 refine .d (.d (.d (bk h fun v1 lx h => (aS (ny lx) (l8 h (fun ow h => ?_) (fun ow h => ?_))))))
 exact .d (eS h)
 exact .d (bk h fun x4 hx5 h => ⟨aA hx5, _, (ax hx5).trans rfl, (eS h)⟩)
def db (a0 : Int) : Option (Int) :=
 (if a0 ≤ 2 then
 some 9
 else
 (if a0 ≤ 5 then
 some 10
 else
 (if a0 = 6 then
 some 8
 else
 (if a0 ≤ 10 then
 some 6
 else
 some 7))))
theorem mw {a0 : Int} {r : Int} (h : db a0 = some r) : ACall Tryz.prog 88 [.int .i64 a0] [] (fun res h => res = .int .i64 r ∧ h = []) := by
 refine gd Tryz.func88 ?_
 unfold db at h
 refine .d (.d (.d (sD h (fun lk h => ?_) (fun lk h => ?_))))
 exact ata
 refine .d (sD h (fun nv h => ?_) (fun nv h => ?_))
 exact ata
 refine .d (sE h (fun ow h => ?_) (fun ow h => ?_))
 exact ata
 refine .d (sD h (fun DH h => ?_) (fun DH h => ?_))
 exact ata
 exact ata
def jb (a0 : Int) : Option (ar) :=
 tW a0 1 15 >>= fun v1 =>
 (if v1 = true then
 idx ([[], [43], [45], [42], [47], [37], [46], [61, 61], [33, 61], [61, 61, 61], [33, 61, 61], [60], [60, 61], [62], [62, 61], [60, 61, 62]] : List ar) a0 >>= fun x4 =>
 some x4
 else
 some [])
theorem wT {a0 : Int} {r : ar} (h : jb a0 = some r) : ACall Tryz.prog 89 [.int .i64 a0] [] (fun res h => res = .str r ∧ h = []) := by
 refine gd Tryz.func89 ?_
 unfold jb at h
 refine .d (.d (.d (bk h fun v1 lx h => (aS (ny lx) (l8 h (fun ow h => ?_) (fun ow h => ?_))))))
 exact .d (eS h)
 exact .d ⟨row cS ([[], [43], [45], [42], [47], [37], [46], [61, 61], [33, 61], [61, 61, 61], [33, 61, 61], [60], [60, 61], [62], [62, 61], [60, 61, 62]] : List ar), aC cS ([[], [43], [45], [42], [47], [37], [46], [61, 61], [33, 61], [61, 61, 61], [33, 61, 61], [60], [60, 61], [62], [62, 61], [60, 61, 62]] : List ar) rfl (aB rfl), (.d (bk h fun x4 hx5 h => ⟨rfl, aA hx5, _, ard _, ⟨rfl, _, ((ax hx5).trans rfl), (eS h)⟩⟩))⟩
def dH (a0 : ar) (l5 : List UInt8) (y6 : Int) : Option ((List UInt8)) :=
 (if y6 < (a0.length : Int) then
 nE a0 y6 >>= fun c10 =>
 (if (c10.toNat : Int) = 39 then
 nD 1 l5 ([(92 : UInt8)] : List UInt8) >>= fun Qc =>
 nE a0 y6 >>= fun BG =>
 nD 1 Qc ([BG] : List UInt8) >>= fun Qd =>
 dH a0 Qd (aT (y6 + 1))
 else
 nE a0 y6 >>= fun c19 =>
 (if (c19.toNat : Int) = 92 then
 nD 1 l5 ([(92 : UInt8)] : List UInt8) >>= fun Qe =>
 nE a0 y6 >>= fun c24 =>
 nD 1 Qe ([c24] : List UInt8) >>= fun Qf =>
 dH a0 Qf (aT (y6 + 1))
 else
 nE a0 y6 >>= fun c28 =>
 nD 1 l5 ([c28] : List UInt8) >>= fun Qg =>
 dH a0 Qg (aT (y6 + 1))))
 else
 some l5)
partial_fixpoint
def ib (a0 : ar) : Option (ar) :=
 (
 dH a0 ([(39 : UInt8)] : List UInt8) 0
 : Option ((List UInt8))) >>= fun l1 =>
 nD 1 l1 ([(39 : UInt8)] : List UInt8) >>= fun Mz =>
 some Mz
theorem oH {a0 : ar} {r : ar} (h : ib a0 = some r) : ACall Tryz.prog 83 [.str a0] [] (fun res h => res = .str r ∧ h = []) := by
 refine gd Tryz.func83 ?_
 unfold ib at h
 refine .d (.d ⟨row cB ([(39 : UInt8)] : List UInt8), aC cB ([(39 : UInt8)] : List UInt8) rfl (aB rfl), ?_⟩)
 obtain ⟨o2, uG, uH⟩ := bd h
 replace h := uG
 refine .cut (fun σ η => ∃ l1, l1 = o2 ∧ σ = [(3, .own 0 0 0 l1.length)] ∧ η = [.row 0 1 l1.length 5 (row cB l1)]) ?_ ?_
 refine .d ?_
 refine le (dH.partial_correctness a0 (motive := fun l5 y6 o32 => o2 = o32 → aG _ _ [(0, .str a0), (3, .own 0 0 0 l5.length), (4, .int .i64 y6)] [.row 0 1 l5.length 5 (row cB l5)]) ?_ ([(39 : UInt8)] : List UInt8) 0 o2 h rfl) (tk [0] ⟨.s, .o, .i, ⟨⟩⟩ ⟨nw, ⟨⟩⟩)
 intro F8 yq l5 y6 o32 h aaU
 subst aaU
 refine aG.round (.d (.d (sD h (fun B1 h => ?_) (fun B1 h => ?_))))
 refine .d (.d (.d (bk h fun c10 Ao h => ⟨gP Ao, c10, gQ Ao, (sE h (fun oa h => ?_) (fun oa h => ?_))⟩)))
 exact .t (.t (.t (.t (.t ⟨row cB ([(92 : UInt8)] : List UInt8), aC cB ([(92 : UInt8)] : List UInt8) rfl (aB rfl), (bk h fun Qc xi h => ⟨rfl, rfl, k9 (l := ([(92 : UInt8)] : List UInt8)) aO, jB xi, Qc.length, row cB Qc, fP xi, gv xi aO (jC aO), (bk h fun BG BH h => ⟨gP BH, BG, gQ BH, ⟨row cB ([BG] : List UInt8), aC cB ([BG] : List UInt8) rfl (aB rfl), (bk h fun Qd pZ h => ⟨rfl, rfl, k9 (l := ([BG] : List UInt8)) aO, jB pZ, Qd.length, row cB Qd, fP pZ, gv pZ aO (jC aO), (lg (yq _ _ _ h rfl) (tk [0] ⟨.s, .o, .i, ⟨⟩⟩ ⟨nw, ⟨⟩⟩))⟩)⟩⟩)⟩)⟩))))
 refine .f (.f (bk h fun c19 vR h => ⟨gP vR, c19, gQ vR, (.f (.f (sE h (fun wS h => ?_) (fun wS h => ?_))))⟩))
 exact ⟨row cB ([(92 : UInt8)] : List UInt8), aC cB ([(92 : UInt8)] : List UInt8) rfl (aB rfl), (bk h fun Qe De h => ⟨rfl, rfl, k9 (l := ([(92 : UInt8)] : List UInt8)) aO, jB De, Qe.length, row cB Qe, fP De, gv De aO (jC aO), (bk h fun c24 MA h => ⟨gP MA, c24, gQ MA, ⟨row cB ([c24] : List UInt8), aC cB ([c24] : List UInt8) rfl (aB rfl), (bk h fun Qf Df h => ⟨rfl, rfl, k9 (l := ([c24] : List UInt8)) aO, jB Df, Qf.length, row cB Qf, fP Df, gv Df aO (jC aO), (lg (yq _ _ _ h rfl) (tk [0] ⟨.s, .o, .i, ⟨⟩⟩ ⟨nw, ⟨⟩⟩))⟩)⟩⟩)⟩)⟩
 exact bk h fun c28 MB h => ⟨gP MB, c28, gQ MB, ⟨row cB ([c28] : List UInt8), aC cB ([c28] : List UInt8) rfl (aB rfl), (bk h fun Qg wN h => ⟨rfl, rfl, k9 (l := ([c28] : List UInt8)) aO, jB wN, Qg.length, row cB Qg, fP wN, gv wN aO (jC aO), (lg (yq _ _ _ h rfl) (tk [0] ⟨.s, .o, .i, ⟨⟩⟩ ⟨nw, ⟨⟩⟩))⟩)⟩⟩
 exact atp
 rintro _ _ ⟨l1, rfl, rfl, rfl⟩
 replace h := uH
 exact .d ⟨row cB ([(39 : UInt8)] : List UInt8), aC cB ([(39 : UInt8)] : List UInt8) rfl (aB rfl), (bk h fun Mz Dg h => ⟨rfl, rfl, k9 (l := ([(39 : UInt8)] : List UInt8)) aO, jB Dg, Mz.length, row cB Mz, fP Dg, gv Dg aO (jC aO), ⟨rfl, Mz, rfl, mn aO rfl, (eS h)⟩⟩)⟩
def oO (s6 : ar) (y7 : Int) : Option (ar) :=
 (if y7 = 0 then
 some s6
 else
 (if (y7.tmod 10) < 0 then
 aH ([UInt8.ofNat (IntKind.u8.wrap (aT (48 + (aT (0 - (y7.tmod 10)))))).toNat] : List UInt8) s6 >>= fun s12 =>
 oO s12 (aT (y7.tdiv 10))
 else
 aH ([UInt8.ofNat (IntKind.u8.wrap (aT (48 + (y7.tmod 10)))).toNat] : List UInt8) s6 >>= fun s14 =>
 oO s14 (aT (y7.tdiv 10))))
partial_fixpoint
def m94 (a0 : Int) : Option (ar) :=
 (if a0 = 0 then
 some [48]
 else
 (
 oO [] a0
 : Option (ar)) >>= fun s2 =>
 (if a0 < 0 then
 aH [45] s2 >>= fun s19 =>
 some s19
 else
 some s2))
theorem an1 {a0 : Int} {r : ar} (h : m94 a0 = some r) : ACall Tryz.prog 85 [.int .i64 a0] [] (fun res h => res = .str r ∧ h = []) := by
 refine gd Tryz.func85 ?_
 unfold m94 at h
 refine .d (.d (.d (sE h (fun lk h => ?_) (fun lk h => ?_))))
 exact .d (eS h)
 refine .d ?_
 obtain ⟨o3, ho4, hk5⟩ := bd h
 replace h := ho4
 refine .cut (fun σ η => ∃ s2, s2 = o3 ∧ σ = [(0, .int .i64 a0), (3, .str s2)] ∧ η = []) ?_ ?_
 refine .d ?_
 refine le (oO.partial_correctness  (motive := fun s6 y7 o16 => o3 = o16 → aG _ _ [(0, .int .i64 a0), (3, .str s6), (4, .int .i64 y7)] []) ?_ [] a0 o3 h rfl) (tk [] ⟨.i, .s, .i, ⟨⟩⟩ ⟨⟩)
 intro F9 ih8 s6 y7 o16 h Vs
 subst Vs
 refine aG.round (.d (.d (sN h (fun lT h => ?_) (fun lT h => ?_))))
 refine .d (.d ⟨by decide, (.d (.d (sD h (fun qZ h => ?_) (fun qZ h => ?_))))⟩)
 exact ⟨row cB ([UInt8.ofNat (IntKind.u8.wrap (aT (48 + (aT (0 - (y7.tmod 10)))))).toNat] : List UInt8), aC cB ([UInt8.ofNat (IntKind.u8.wrap (aT (48 + (aT (0 - (y7.tmod 10)))))).toNat] : List UInt8) rfl (Bz (Eu _) ⟨.same _, trivial⟩ trivial), ⟨rfl, ([UInt8.ofNat (IntKind.u8.wrap (aT (48 + (aT (0 - (y7.tmod 10)))))).toNat] : List UInt8), rfl, mn aO rfl, (bk h fun s12 He h => ⟨ay He, s12, az He, ⟨by decide, (lg (ih8 _ _ _ h rfl) (tk [] ⟨.i, .s, .i, ⟨⟩⟩ ⟨⟩))⟩⟩)⟩⟩
 exact ⟨row cB ([UInt8.ofNat (IntKind.u8.wrap (aT (48 + (y7.tmod 10)))).toNat] : List UInt8), aC cB ([UInt8.ofNat (IntKind.u8.wrap (aT (48 + (y7.tmod 10)))).toNat] : List UInt8) rfl (Bz (Eu _) ⟨.same _, trivial⟩ trivial), ⟨rfl, ([UInt8.ofNat (IntKind.u8.wrap (aT (48 + (y7.tmod 10)))).toNat] : List UInt8), rfl, mn aO rfl, (bk h fun s14 My h => ⟨ay My, s14, az My, ⟨by decide, (lg (ih8 _ _ _ h rfl) (tk [] ⟨.i, .s, .i, ⟨⟩⟩ ⟨⟩))⟩⟩)⟩⟩
 exact ct ⟨_, si h, rfl, rfl⟩ (tk [] ⟨.i, .s, ⟨⟩⟩ ⟨⟩)
 rintro _ _ ⟨s2, rfl, rfl, rfl⟩
 replace h := hk5
 refine .d (.d (sD h (fun wR h => ?_) (fun wR h => ?_)))
 exact .d (bk h fun s19 vR h => ⟨ay vR, s19, az vR, (eS h)⟩)
 exact .d (eS h)
def jW (a0 : ae) : Option (Int) :=
 (
 (if a0.ai = 15 then
 some (a0.ai == 15)
 else
 (if a0.ai = 16 then
 some (a0.ai == 16)
 else
 some (a0.ai == 17)))
 : Option (Bool)) >>= fun b1 =>
 (if b1 = true then
 some 1
 else
 (if a0.ai = 14 then
 some 2
 else
 (if a0.ai = 13 then
 some 3
 else
 (if a0.ai = 12 then
 some 4
 else
 (if a0.ai = 11 then
 some 5
 else
 (if a0.ai = 10 then
 db a0.aD >>= fun oD =>
 some oD
 else
 (if a0.ai = 9 then
 some 11
 else
 some 12)))))))
theorem wQ {a0 : ae} {r : Int} (h : jW a0 = some r) : ACall Tryz.prog 150 [.agg a0.lit] [] (fun res h => res = .int .i64 r ∧ h = []) := by
 refine gd Tryz.func150 ?_
 unfold jW at h
 refine .d (.d (.d ⟨rfl, ⟨rfl, _, rfl, ?_⟩⟩))
 obtain ⟨o2, uG, uH⟩ := bd h
 replace h := uG
 refine .cut (fun σ η => ∃ b1, b1 = o2 ∧ σ = [(1, .aM 0 0 0 0), (4, .int .i64 a0.ai), (5, .bool b1)] ∧ η = [.row 0 4 1 29 (fun _ => a0.lit)]) ?_ ?_
 refine .d (sE h (fun BZ h => ?_) (fun BZ h => ?_))
 exact ate
 refine .d (sE h (fun xA h => ?_) (fun xA h => ?_))
 exact ate
 exact ate
 rintro _ _ ⟨b1, rfl, rfl, rfl⟩
 replace h := uH
 refine sV h (fun B2 h => ?_) (fun B2 h => ?_)
 exact ata
 refine .d (sE h (fun DL h => ?_) (fun DL h => ?_))
 exact ata
 refine .d (sE h (fun B1 h => ?_) (fun B1 h => ?_))
 exact ata
 refine .d (sE h (fun lT h => ?_) (fun lT h => ?_))
 exact ata
 refine .d (sE h (fun qZ h => ?_) (fun qZ h => ?_))
 exact ata
 refine .d (sE h (fun oa h => ?_) (fun oa h => ?_))
 exact .d ⟨rfl, ⟨rfl, _, rfl, (bk h fun oD qf h => (aS (mw qf) (eI h)))⟩⟩
 refine .d (sE h (fun lU h => ?_) (fun lU h => ?_))
 exact ata
 exact ata
def cy (a0 : ae) : Option (Bool) :=
 (if a0.ai < 31 then
 some (a0.ai != 24)
 else
 some false)
theorem uX {a0 : ae} {r : Bool} (h : cy a0 = some r) : ACall Tryz.prog 81 [.agg a0.lit] [] (fun res h => res = .bool r ∧ h = []) := by
 refine gd Tryz.func81 ?_
 unfold cy at h
 refine .d (.d ⟨rfl, ⟨rfl, _, rfl, (sD h (fun lk h => ?_) (fun lk h => ?_))⟩⟩)
 exact ⟨rfl, (.t ⟨rfl, _, rfl, (.t (.t (eB h)))⟩)⟩
 exact atl
def j6 (a0 : Int) : Option (ar) :=
 (if a0 < 1 then
 some []
 else
 (if a0 > 15 then
 some []
 else
 idx ([[43], [45], [42], [47], [37], [46], [61, 61], [33, 61], [61, 61, 61], [33, 61, 61], [60], [60, 61], [62], [62, 61], [60, 61, 62]] : List ar) (aT (a0 - 1)) >>= fun x3 =>
 some x3))
theorem xa {a0 : Int} {r : ar} (h : j6 a0 = some r) : ACall Tryz.prog 155 [.int .i64 a0] [] (fun res h => res = .str r ∧ h = []) := by
 refine gd Tryz.func155 ?_
 unfold j6 at h
 refine .d (.d ⟨row cS ([[43], [45], [42], [47], [37], [46], [61, 61], [33, 61], [61, 61, 61], [33, 61, 61], [60], [60, 61], [62], [62, 61], [60, 61, 62]] : List ar), aC cS ([[43], [45], [42], [47], [37], [46], [61, 61], [33, 61], [61, 61, 61], [33, 61, 61], [60], [60, 61], [62], [62, 61], [60, 61, 62]] : List ar) rfl (aB rfl), (.d (.d (sD h (fun lk h => ?_) (fun lk h => ?_))))⟩)
 exact .t (.t (.t (.d (eS h))))
 refine .f (.f (sD h (fun nv h => ?_) (fun nv h => ?_)))
 exact .d (eS h)
 exact .d (bk h fun x3 hx4 h => ⟨rfl, aA hx4, _, ard _, ⟨rfl, _, ((ax hx4).trans rfl), (eS h)⟩⟩)
def dI (a0 : ar) (l5 : List UInt8) (y6 : Int) : Option ((List UInt8)) :=
 (if y6 < (a0.length : Int) then
 nE a0 y6 >>= fun c10 =>
 (if (c10.toNat : Int) = 39 then
 nD 1 l5 ([(92 : UInt8)] : List UInt8) >>= fun Qc =>
 nE a0 y6 >>= fun BG =>
 nD 1 Qc ([BG] : List UInt8) >>= fun Qd =>
 dI a0 Qd (aT (y6 + 1))
 else
 nE a0 y6 >>= fun c19 =>
 (if (c19.toNat : Int) = 92 then
 nD 1 l5 ([(92 : UInt8)] : List UInt8) >>= fun Qe =>
 nE a0 y6 >>= fun c24 =>
 nD 1 Qe ([c24] : List UInt8) >>= fun Qf =>
 dI a0 Qf (aT (y6 + 1))
 else
 nE a0 y6 >>= fun c28 =>
 nD 1 l5 ([c28] : List UInt8) >>= fun Qg =>
 dI a0 Qg (aT (y6 + 1))))
 else
 some l5)
partial_fixpoint
def ic (a0 : ar) : Option (ar) :=
 (
 dI a0 ([(39 : UInt8)] : List UInt8) 0
 : Option ((List UInt8))) >>= fun l1 =>
 nD 1 l1 ([(39 : UInt8)] : List UInt8) >>= fun Mz =>
 some Mz
theorem pa {a0 : ar} {r : ar} (h : ic a0 = some r) : ACall Tryz.prog 96 [.str a0] [] (fun res h => res = .str r ∧ h = []) := by
 refine gd Tryz.func96 ?_
 unfold ic at h
 refine .d (.d ⟨row cB ([(39 : UInt8)] : List UInt8), aC cB ([(39 : UInt8)] : List UInt8) rfl (aB rfl), ?_⟩)
 obtain ⟨o2, uG, uH⟩ := bd h
 replace h := uG
 refine .cut (fun σ η => ∃ l1, l1 = o2 ∧ σ = [(3, .own 0 0 0 l1.length)] ∧ η = [.row 0 1 l1.length 5 (row cB l1)]) ?_ ?_
 refine .d ?_
 refine le (dI.partial_correctness a0 (motive := fun l5 y6 o32 => o2 = o32 → aG _ _ [(0, .str a0), (3, .own 0 0 0 l5.length), (4, .int .i64 y6)] [.row 0 1 l5.length 5 (row cB l5)]) ?_ ([(39 : UInt8)] : List UInt8) 0 o2 h rfl) (tk [0] ⟨.s, .o, .i, ⟨⟩⟩ ⟨nw, ⟨⟩⟩)
 intro F8 yq l5 y6 o32 h aaU
 subst aaU
 refine aG.round (.d (.d (sD h (fun B1 h => ?_) (fun B1 h => ?_))))
 refine .d (.d (.d (bk h fun c10 Ao h => ⟨gP Ao, c10, gQ Ao, (sE h (fun oa h => ?_) (fun oa h => ?_))⟩)))
 exact .t (.t (.t (.t (.t ⟨row cB ([(92 : UInt8)] : List UInt8), aC cB ([(92 : UInt8)] : List UInt8) rfl (aB rfl), (bk h fun Qc xi h => ⟨rfl, rfl, k9 (l := ([(92 : UInt8)] : List UInt8)) aO, jB xi, Qc.length, row cB Qc, fP xi, gv xi aO (jC aO), (bk h fun BG BH h => ⟨gP BH, BG, gQ BH, ⟨row cB ([BG] : List UInt8), aC cB ([BG] : List UInt8) rfl (aB rfl), (bk h fun Qd pZ h => ⟨rfl, rfl, k9 (l := ([BG] : List UInt8)) aO, jB pZ, Qd.length, row cB Qd, fP pZ, gv pZ aO (jC aO), (lg (yq _ _ _ h rfl) (tk [0] ⟨.s, .o, .i, ⟨⟩⟩ ⟨nw, ⟨⟩⟩))⟩)⟩⟩)⟩)⟩))))
 refine .f (.f (bk h fun c19 vR h => ⟨gP vR, c19, gQ vR, (.f (.f (sE h (fun wS h => ?_) (fun wS h => ?_))))⟩))
 exact ⟨row cB ([(92 : UInt8)] : List UInt8), aC cB ([(92 : UInt8)] : List UInt8) rfl (aB rfl), (bk h fun Qe De h => ⟨rfl, rfl, k9 (l := ([(92 : UInt8)] : List UInt8)) aO, jB De, Qe.length, row cB Qe, fP De, gv De aO (jC aO), (bk h fun c24 MA h => ⟨gP MA, c24, gQ MA, ⟨row cB ([c24] : List UInt8), aC cB ([c24] : List UInt8) rfl (aB rfl), (bk h fun Qf Df h => ⟨rfl, rfl, k9 (l := ([c24] : List UInt8)) aO, jB Df, Qf.length, row cB Qf, fP Df, gv Df aO (jC aO), (lg (yq _ _ _ h rfl) (tk [0] ⟨.s, .o, .i, ⟨⟩⟩ ⟨nw, ⟨⟩⟩))⟩)⟩⟩)⟩)⟩
 exact bk h fun c28 MB h => ⟨gP MB, c28, gQ MB, ⟨row cB ([c28] : List UInt8), aC cB ([c28] : List UInt8) rfl (aB rfl), (bk h fun Qg wN h => ⟨rfl, rfl, k9 (l := ([c28] : List UInt8)) aO, jB wN, Qg.length, row cB Qg, fP wN, gv wN aO (jC aO), (lg (yq _ _ _ h rfl) (tk [0] ⟨.s, .o, .i, ⟨⟩⟩ ⟨nw, ⟨⟩⟩))⟩)⟩⟩
 exact atp
 rintro _ _ ⟨l1, rfl, rfl, rfl⟩
 replace h := uH
 exact .d ⟨row cB ([(39 : UInt8)] : List UInt8), aC cB ([(39 : UInt8)] : List UInt8) rfl (aB rfl), (bk h fun Mz Dg h => ⟨rfl, rfl, k9 (l := ([(39 : UInt8)] : List UInt8)) aO, jB Dg, Mz.length, row cB Mz, fP Dg, gv Dg aO (jC aO), ⟨rfl, Mz, rfl, mn aO rfl, (eS h)⟩⟩)⟩
def jM (a0 : Int) : Option (Int) :=
 (
 (if a0 = 7 then
 some (a0 == 7)
 else
 (if a0 = 8 then
 some (a0 == 8)
 else
 (if a0 = 9 then
 some (a0 == 9)
 else
 some (a0 == 10))))
 : Option (Bool)) >>= fun b1 =>
 (if b1 = true then
 some 6
 else
 (
 (if a0 = 11 then
 some (a0 == 11)
 else
 (if a0 = 12 then
 some (a0 == 12)
 else
 (if a0 = 13 then
 some (a0 == 13)
 else
 (if a0 = 14 then
 some (a0 == 14)
 else
 some (a0 == 15)))))
 : Option (Bool)) >>= fun b9 =>
 (if b9 = true then
 some 7
 else
 (if a0 = 6 then
 some 8
 else
 (if a0 = 1 then
 some 9
 else
 (if a0 = 2 then
 some 9
 else
 some 10)))))
theorem rX {a0 : Int} {r : Int} (h : jM a0 = some r) : ACall Tryz.prog 151 [.int .i64 a0] [] (fun res h => res = .int .i64 r ∧ h = []) := by
 refine gd Tryz.func151 ?_
 unfold jM at h
 refine .d (.d (.d ?_))
 obtain ⟨o2, uG, uH⟩ := bd h
 replace h := uG
 refine .cut (fun σ η => ∃ b1, b1 = o2 ∧ σ = [(3, .int .i64 a0), (4, .bool b1)] ∧ η = []) ?_ ?_
 refine .d (sE h (fun BZ h => ?_) (fun BZ h => ?_))
 exact atc
 refine .d (sE h (fun xA h => ?_) (fun xA h => ?_))
 exact atc
 refine .d (sE h (fun B2 h => ?_) (fun B2 h => ?_))
 exact atc
 exact atc
 rintro _ _ ⟨b1, rfl, rfl, rfl⟩
 replace h := uH
 refine sV h (fun DL h => ?_) (fun DL h => ?_)
 exact ata
 obtain ⟨o10, VI, VJ⟩ := bd h
 replace h := VI
 refine .cut (fun σ η => ∃ b9, b9 = o10 ∧ σ = [(3, .int .i64 a0), (9, .bool b9)] ∧ η = []) ?_ ?_
 refine .d (sE h (fun wM h => ?_) (fun wM h => ?_))
 exact atc
 refine .d (sE h (fun ua h => ?_) (fun ua h => ?_))
 exact atc
 refine .d (sE h (fun lU h => ?_) (fun lU h => ?_))
 exact atc
 refine .d (sE h (fun pT h => ?_) (fun pT h => ?_))
 exact atc
 exact atc
 rintro _ _ ⟨b9, rfl, rfl, rfl⟩
 replace h := VJ
 refine sV h (fun ri h => ?_) (fun ri h => ?_)
 exact ata
 refine .d (sE h (fun wR h => ?_) (fun wR h => ?_))
 exact ata
 refine .d (.d (sE h (fun zb h => ?_) (fun zb h => ?_)))
 exact .kt zb (.d (eI h))
 refine sE h (fun wY h => ?_) (fun wY h => ?_)
 exact ata
 exact ata
def kO (a0 : ae) : Option (Int) :=
 (
 (if a0.ai = 15 then
 some (a0.ai == 15)
 else
 (if a0.ai = 16 then
 some (a0.ai == 16)
 else
 some (a0.ai == 17)))
 : Option (Bool)) >>= fun b1 =>
 (if b1 = true then
 some 1
 else
 (if a0.ai = 14 then
 some 2
 else
 (if a0.ai = 13 then
 some 3
 else
 (if a0.ai = 12 then
 some 4
 else
 (if a0.ai = 11 then
 some 5
 else
 (if a0.ai = 10 then
 jM a0.aD >>= fun oD =>
 some oD
 else
 (if a0.ai = 9 then
 some 11
 else
 some 12)))))))
theorem zA {a0 : ae} {r : Int} (h : kO a0 = some r) : ACall Tryz.prog 92 [.agg a0.lit] [] (fun res h => res = .int .i64 r ∧ h = []) := by
 refine gd Tryz.func92 ?_
 unfold kO at h
 refine .d (.d (.d ⟨rfl, ⟨rfl, _, rfl, ?_⟩⟩))
 obtain ⟨o2, uG, uH⟩ := bd h
 replace h := uG
 refine .cut (fun σ η => ∃ b1, b1 = o2 ∧ σ = [(1, .aM 0 0 0 0), (4, .int .i64 a0.ai), (5, .bool b1)] ∧ η = [.row 0 4 1 29 (fun _ => a0.lit)]) ?_ ?_
 refine .d (sE h (fun BZ h => ?_) (fun BZ h => ?_))
 exact ate
 refine .d (sE h (fun xA h => ?_) (fun xA h => ?_))
 exact ate
 exact ate
 rintro _ _ ⟨b1, rfl, rfl, rfl⟩
 replace h := uH
 refine sV h (fun B2 h => ?_) (fun B2 h => ?_)
 exact ata
 refine .d (sE h (fun DL h => ?_) (fun DL h => ?_))
 exact ata
 refine .d (sE h (fun B1 h => ?_) (fun B1 h => ?_))
 exact ata
 refine .d (sE h (fun lT h => ?_) (fun lT h => ?_))
 exact ata
 refine .d (sE h (fun qZ h => ?_) (fun qZ h => ?_))
 exact ata
 refine .d (sE h (fun oa h => ?_) (fun oa h => ?_))
 exact .d ⟨rfl, ⟨rfl, _, rfl, (bk h fun oD qf h => (aS (rX qf) (eI h)))⟩⟩
 refine .d (sE h (fun lU h => ?_) (fun lU h => ?_))
 exact ata
 exact ata
def gW (y8 : Int) (y9 : Int) (MC : ar) (uk : List ae) : Option (Int × Int × ar × (List ae)) :=
 (if y8 = 7 then
 (if (uk.length : Int) > 0 then
 idx uk 0 >>= fun r8 =>
 gW r8.ai r8.aD r8.aj r8.ah
 else
 some (y8, y9, MC, uk))
 else
 some (y8, y9, MC, uk))
partial_fixpoint
def jc (a0 : ae) : Option (Bool) :=
 (
 gW a0.ai a0.aD a0.aj a0.ah
 : Option (Int × Int × ar × (List ae))) >>= fun (y1, y2, s3, l4) =>
 (if y1 = 4 then
 some true
 else
 some (y1 == 8))
theorem p5 {a0 : ae} {r : Bool} (h : jc a0 = some r) : ACall Tryz.prog 112 [.agg a0.lit] [] (fun res h => res = .bool r ∧ h = []) := by
 refine gd Tryz.func112 ?_
 unfold jc at h
 refine .d ?_
 obtain ⟨o5, ho6, hk7⟩ := bd h
 replace h := ho6
 refine .cut (fun σ η => ∃ y1, ∃ y2, ∃ s3, ∃ l4, (y1, y2, s3, l4) = o5 ∧ σ = [(1, .aM 0 0 0 0)] ∧ η = [.row 0 4 1 29 (fun _ => [.int .i64 y1, .int .i64 y2, .str s3, sl 4 ae.cells l4])]) ?_ ?_
 refine le (gW.partial_correctness  (motive := fun y8 y9 MC uk Hf => o5 = Hf → aG _ _ [(1, .aM 0 0 0 0)] [.row 0 4 1 29 (fun _ => [.int .i64 y8, .int .i64 y9, .str MC, sl 4 ae.cells uk])]) ?_ a0.ai a0.aD a0.aj a0.ah o5 h rfl) (tk [0] ⟨.p, ⟨⟩⟩ ⟨(cF rfl), ⟨⟩⟩)
 intro F13 Db y8 y9 MC uk Hf h aaV
 subst aaV
 refine aG.round (.d (.d ⟨rfl, ⟨rfl, _, rfl, (sE h (fun ua h => ?_) (fun ua h => ?_))⟩⟩))
 refine ⟨rfl, (.t ⟨rfl, _, rfl, (.t (.t (.t (sD h (fun lU h => ?_) (fun lU h => ?_)))))⟩)⟩
 exact ⟨rfl, ⟨rfl, _, rfl, (bk h fun r8 BE h => ⟨aA BE, _, (ax BE).trans (ae.au r8), ⟨rfl, _, fun _ => [.int .i64 r8.ai, .int .i64 r8.aD, .str r8.aj, sl 4 ae.cells r8.ah], rfl, bX rfl, (lg (Db _ _ _ _ _ h rfl) (tk [0] ⟨.p, ⟨⟩⟩ ⟨(cF rfl), ⟨⟩⟩))⟩⟩)⟩⟩
 exact ct ⟨_, _, _, _, si h, rfl, rfl⟩ (tk [0] ⟨.p, ⟨⟩⟩ ⟨(cF rfl), ⟨⟩⟩)
 exact .f (.f (.f (.f (.f (ct ⟨_, _, _, _, si h, rfl, rfl⟩ (tk [0] ⟨.p, ⟨⟩⟩ ⟨(cF rfl), ⟨⟩⟩))))))
 rintro _ _ ⟨y1, y2, s3, l4, rfl, rfl, rfl⟩
 replace h := hk7
 refine .d ⟨rfl, ⟨rfl, _, rfl, (sE h (fun wY h => ?_) (fun wY h => ?_))⟩⟩
 exact .t (.t (.t (eB h)))
 exact ⟨rfl, (.f ⟨rfl, _, rfl, (.f (.f (eB h)))⟩)⟩
def eU (a0 : ae) : Option (Bool) :=
 (if a0.ai = 4 then
 (if a0.aD = 0 then
 a8 a0.aj >>= fun v3 =>
 (if v3 = true then
 some ((a0.ah.length : Int) == 0)
 else
 some false)
 else
 some false)
 else
 some false)
theorem kq {a0 : ae} {r : Bool} (h : eU a0 = some r) : ACall Tryz.prog 138 [.agg a0.lit] [] (fun res h => res = .bool r ∧ h = []) := by
 refine gd Tryz.func138 ?_
 unfold eU at h
 refine .d (.d ⟨rfl, ⟨rfl, _, rfl, (sE h (fun lk h => ?_) (fun lk h => ?_))⟩⟩)
 refine ⟨rfl, (.t ⟨rfl, _, rfl, (.t (.t (sE h (fun nv h => ?_) (fun nv h => ?_))))⟩)⟩
 refine ⟨rfl, (.t ⟨rfl, _, rfl, (.t (bk h fun v3 hv4 h => (aS (cj hv4) (.t (sV h (fun BZ h => ?_) (fun BZ h => ?_))))))⟩)⟩
 exact ⟨rfl, (.t ⟨rfl, _, rfl, (.t (.t (.t (eB h))))⟩)⟩
 exact .f (.f (.f (.f (eB h))))
 exact atr
 exact .f (.f (.f (.f (.f (.f (.f (.f (.f (.f (.f (.f (eB h))))))))))))
def gy (y8 : Int) (y9 : Int) (MC : ar) (uk : List ae) : Option (Int × Int × ar × (List ae)) :=
 (if y8 = 7 then
 (if (uk.length : Int) = 2 then
 idx uk 0 >>= fun r8 =>
 gy r8.ai r8.aD r8.aj r8.ah
 else
 some (y8, y9, MC, uk))
 else
 some (y8, y9, MC, uk))
partial_fixpoint
def ia (a0 : ae) : Option (Bool) :=
 (
 gy a0.ai a0.aD a0.aj a0.ah
 : Option (Int × Int × ar × (List ae))) >>= fun (y1, y2, s3, l4) =>
 (if y1 = 4 then
 some true
 else
 some (y1 == 8))
theorem oG {a0 : ae} {r : Bool} (h : ia a0 = some r) : ACall Tryz.prog 104 [.agg a0.lit] [] (fun res h => res = .bool r ∧ h = []) := by
 refine gd Tryz.func104 ?_
 unfold ia at h
 refine .d ?_
 obtain ⟨o5, ho6, hk7⟩ := bd h
 replace h := ho6
 refine .cut (fun σ η => ∃ y1, ∃ y2, ∃ s3, ∃ l4, (y1, y2, s3, l4) = o5 ∧ σ = [(1, .aM 0 0 0 0)] ∧ η = [.row 0 4 1 29 (fun _ => [.int .i64 y1, .int .i64 y2, .str s3, sl 4 ae.cells l4])]) ?_ ?_
 refine le (gy.partial_correctness  (motive := fun y8 y9 MC uk Hf => o5 = Hf → aG _ _ [(1, .aM 0 0 0 0)] [.row 0 4 1 29 (fun _ => [.int .i64 y8, .int .i64 y9, .str MC, sl 4 ae.cells uk])]) ?_ a0.ai a0.aD a0.aj a0.ah o5 h rfl) (tk [0] ⟨.p, ⟨⟩⟩ ⟨(cF rfl), ⟨⟩⟩)
 intro F13 Db y8 y9 MC uk Hf h aaV
 subst aaV
 refine aG.round (.d (.d ⟨rfl, ⟨rfl, _, rfl, (sE h (fun ua h => ?_) (fun ua h => ?_))⟩⟩))
 refine ⟨rfl, (.t ⟨rfl, _, rfl, (.t (.t (.t (sE h (fun lU h => ?_) (fun lU h => ?_)))))⟩)⟩
 exact ⟨rfl, ⟨rfl, _, rfl, (bk h fun r8 BE h => ⟨aA BE, _, (ax BE).trans (ae.au r8), ⟨rfl, _, fun _ => [.int .i64 r8.ai, .int .i64 r8.aD, .str r8.aj, sl 4 ae.cells r8.ah], rfl, bX rfl, (lg (Db _ _ _ _ _ h rfl) (tk [0] ⟨.p, ⟨⟩⟩ ⟨(cF rfl), ⟨⟩⟩))⟩⟩)⟩⟩
 exact ct ⟨_, _, _, _, si h, rfl, rfl⟩ (tk [0] ⟨.p, ⟨⟩⟩ ⟨(cF rfl), ⟨⟩⟩)
 exact .f (.f (.f (.f (.f (ct ⟨_, _, _, _, si h, rfl, rfl⟩ (tk [0] ⟨.p, ⟨⟩⟩ ⟨(cF rfl), ⟨⟩⟩))))))
 rintro _ _ ⟨y1, y2, s3, l4, rfl, rfl, rfl⟩
 replace h := hk7
 refine .d ⟨rfl, ⟨rfl, _, rfl, (sE h (fun wY h => ?_) (fun wY h => ?_))⟩⟩
 exact .t (.t (.t (eB h)))
 exact ⟨rfl, (.f ⟨rfl, _, rfl, (.f (.f (eB h)))⟩)⟩
def dJ (a0 : ae) (b69 : Bool) (y70 : Int) : Option (Bool × Bool) :=
 (if y70 < (a0.aj.length : Int) then
 (if b69 = true then
 mS a0.aj y70 [60, 63] >>= fun v75 =>
 dJ a0 (!v75) (aT (y70 + 1))
 else
 dJ a0 false (aT (y70 + 1)))
 else
 some ((a0.aD == 0), b69))
partial_fixpoint
def cW (a0 : ae) : Option (Bool × Bool) :=
 (
 (if a0.ai = 1 then
 tW a0.aD 0 1000000000 >>= fun v7 =>
 some (v7, (a0.aj == ([] : ar)))
 else
 (if a0.ai = 3 then
 tW a0.aD 0 2 >>= fun v10 =>
 some (v10, (a0.aj == ([] : ar)))
 else
 (if a0.ai = 9 then
 tW a0.aD 1 2 >>= fun oD =>
 some (oD, (a0.aj == ([] : ar)))
 else
 (if a0.ai = 10 then
 tW a0.aD 1 15 >>= fun v16 =>
 some (v16, (a0.aj == ([] : ar)))
 else
 (
 (if a0.ai = 2 then
 some (a0.ai == 2)
 else
 some (a0.ai == 47))
 : Option (Bool)) >>= fun b18 =>
 (if b18 = true then
 some ((a0.aD == 0), (decide ((a0.aj.length : Int) ≤ 400)))
 else
 (
 (if a0.ai = 4 then
 some (a0.ai == 4)
 else
 (if a0.ai = 8 then
 some (a0.ai == 8)
 else
 (if a0.ai = 17 then
 some (a0.ai == 17)
 else
 (if a0.ai = 18 then
 some (a0.ai == 18)
 else
 (if a0.ai = 20 then
 some (a0.ai == 20)
 else
 (if a0.ai = 40 then
 some (a0.ai == 40)
 else
 (if a0.ai = 44 then
 some (a0.ai == 44)
 else
 (if a0.ai = 49 then
 some (a0.ai == 49)
 else
 (if a0.ai = 50 then
 some (a0.ai == 50)
 else
 (if a0.ai = 51 then
 some (a0.ai == 51)
 else
 (if a0.ai = 52 then
 some (a0.ai == 52)
 else
 some (a0.ai == 53))))))))))))
 : Option (Bool)) >>= fun b24 =>
 (if b24 = true then
 cc a0.aj >>= fun v40 =>
 some ((a0.aD == 0), v40)
 else
 (if a0.ai = 22 then
 cc a0.aj >>= fun N6 =>
 (if N6 = true then
 some ((a0.aD == 0), true)
 else
 some ((a0.aD == 0), (a0.aj == ([115, 116, 97, 116, 105, 99] : ar))))
 else
 (if a0.ai = 54 then
 tW a0.aD 0 1 >>= fun v47 =>
 cc a0.aj >>= fun v49 =>
 some (v47, v49)
 else
 (if a0.ai = 55 then
 tW a0.aD 0 3 >>= fun v52 =>
 cc a0.aj >>= fun T3 =>
 some (v52, T3)
 else
 (if a0.ai = 21 then
 j7 a0.aj >>= fun (v57, v58) =>
 cc v57 >>= fun T4 =>
 (if T4 = true then
 cc v58 >>= fun Jn =>
 some ((a0.aD == 0), Jn)
 else
 (if v57 = ([115, 116, 97, 116, 105, 99] : ar) then
 cc v58 >>= fun v66 =>
 some ((a0.aD == 0), v66)
 else
 some ((a0.aD == 0), false)))
 else
 (if a0.ai = 31 then
 dJ a0 (!(a0.aj == ([] : ar))) 0
 else
 some ((a0.aD == 0), (a0.aj == ([] : ar))))))))))))))
 : Option (Bool × Bool)) >>= fun (b1, b2) =>
 some (b1, b2)
theorem ly {a0 : ae} {r : Bool × Bool} (h : cW a0 = some r) : ACall Tryz.prog 75 [.agg a0.lit] [] (fun res h => res = .aU [.bool r.1, .bool r.2] ∧ h = []) := by
 refine gd Tryz.func75 ?_
 unfold cW at h
 refine .d (.d ⟨rfl, ⟨rfl, _, rfl, (.d ⟨rfl, ⟨rfl, _, rfl, ?_⟩⟩)⟩⟩)
 obtain ⟨o3, ho4, hk5⟩ := bd h
 replace h := ho4
 refine .cut (fun σ η => ∃ b1, ∃ b2, (b1, b2) = o3 ∧ σ = [(4, .bool b1), (5, .bool b2)] ∧ η = []) ?_ ?_
 refine .d ⟨rfl, ⟨rfl, _, rfl, (.d (sE h (fun xA h => ?_) (fun xA h => ?_)))⟩⟩
 exact ⟨rfl, ⟨rfl, _, rfl, (bk h fun v7 hv8 h => (aS (ny hv8) (ct ⟨_, _, si h, rfl, rfl⟩ (tk [] ⟨.b, .b, ⟨⟩⟩ ⟨⟩))))⟩⟩
 refine .d (sE h (fun B1 h => ?_) (fun B1 h => ?_))
 exact ⟨rfl, ⟨rfl, _, rfl, (bk h fun v10 IP h => (aS (ny IP) (ct ⟨_, _, si h, rfl, rfl⟩ (tk [] ⟨.b, .b, ⟨⟩⟩ ⟨⟩))))⟩⟩
 refine .d (sE h (fun oa h => ?_) (fun oa h => ?_))
 exact ⟨rfl, ⟨rfl, _, rfl, (bk h fun oD qf h => (aS (ny qf) (ct ⟨_, _, si h, rfl, rfl⟩ (tk [] ⟨.b, .b, ⟨⟩⟩ ⟨⟩))))⟩⟩
 refine .d (sE h (fun lU h => ?_) (fun lU h => ?_))
 exact ⟨rfl, ⟨rfl, _, rfl, (bk h fun v16 Yj h => (aS (ny Yj) (ct ⟨_, _, si h, rfl, rfl⟩ (tk [] ⟨.b, .b, ⟨⟩⟩ ⟨⟩))))⟩⟩
 obtain ⟨o19, aqd, aqe⟩ := bd h
 replace h := aqd
 refine .cut (fun σ η => ∃ b18, b18 = o19 ∧ σ = [(1, .aM 0 0 0 0), (4, .bool (a0.aD == 0)), (5, .bool (a0.aj == ([] : ar))), (16, .int .i64 a0.ai), (37, .bool b18)] ∧ η = [.row 0 4 1 29 (fun _ => a0.lit)]) ?_ ?_
 refine .d (sE h (fun Ap h => ?_) (fun Ap h => ?_))
 exact asX
 exact asX
 rintro _ _ ⟨b18, rfl, rfl, rfl⟩
 replace h := aqe
 refine sV h (fun GP h => ?_) (fun GP h => ?_)
 exact ⟨rfl, ⟨rfl, _, rfl, (ct ⟨_, _, si h, rfl, rfl⟩ (tk [] ⟨.b, .b, ⟨⟩⟩ ⟨⟩))⟩⟩
 obtain ⟨o25, aqf, aqg⟩ := bd h
 replace h := aqf
 refine .cut (fun σ η => ∃ b24, b24 = o25 ∧ σ = [(1, .aM 0 0 0 0), (4, .bool (a0.aD == 0)), (5, .bool (a0.aj == ([] : ar))), (16, .int .i64 a0.ai), (44, .bool b24)] ∧ η = [.row 0 4 1 29 (fun _ => a0.lit)]) ?_ ?_
 refine .d (sE h (fun aaT h => ?_) (fun aaT h => ?_))
 exact asX
 refine .d (sE h (fun VL h => ?_) (fun VL h => ?_))
 exact asX
 refine .d (sE h (fun ZG h => ?_) (fun ZG h => ?_))
 exact asX
 refine .d (sE h (fun aqh h => ?_) (fun aqh h => ?_))
 exact asX
 refine .d (sE h (fun Hv h => ?_) (fun Hv h => ?_))
 exact asX
 refine .d (sE h (fun VM h => ?_) (fun VM h => ?_))
 exact asX
 refine .d (sE h (fun Hw h => ?_) (fun Hw h => ?_))
 exact asX
 refine .d (sE h (fun aqi h => ?_) (fun aqi h => ?_))
 exact asX
 refine .d (sE h (fun aqj h => ?_) (fun aqj h => ?_))
 exact asX
 refine .d (sE h (fun Hy h => ?_) (fun Hy h => ?_))
 exact asX
 refine .d (sE h (fun YN h => ?_) (fun YN h => ?_))
 exact asX
 exact asX
 rintro _ _ ⟨b24, rfl, rfl, rfl⟩
 replace h := aqg
 refine sV h (fun Jz h => ?_) (fun Jz h => ?_)
 exact ⟨rfl, ⟨rfl, _, rfl, (bk h fun v40 JA h => (aS (dP JA) (ct ⟨_, _, si h, rfl, rfl⟩ (tk [] ⟨.b, .b, ⟨⟩⟩ ⟨⟩))))⟩⟩
 refine .d (sE h (fun YO h => ?_) (fun YO h => ?_))
 refine ⟨rfl, ⟨rfl, _, rfl, (bk h fun N6 YP h => (aS (dP YP) (sV h (fun YQ h => ?_) (fun YQ h => ?_))))⟩⟩
 exact .t (.t (.t (ct ⟨_, _, si h, rfl, rfl⟩ (tk [] ⟨.b, .b, ⟨⟩⟩ ⟨⟩))))
 exact ⟨rfl, (.f ⟨rfl, _, rfl, (.f (.f (ct ⟨_, _, si h, rfl, rfl⟩ (tk [] ⟨.b, .b, ⟨⟩⟩ ⟨⟩))))⟩)⟩
 refine .d (sE h (fun aqk h => ?_) (fun aqk h => ?_))
 exact .d ⟨rfl, ⟨rfl, _, rfl, (bk h fun v47 aql h => (aS (ny aql) ⟨rfl, ⟨rfl, _, rfl, (bk h fun v49 aqm h => (aS (dP aqm) (ct ⟨_, _, si h, rfl, rfl⟩ (tk [] ⟨.b, .b, ⟨⟩⟩ ⟨⟩))))⟩⟩))⟩⟩
 refine .d (sE h (fun Hz h => ?_) (fun Hz h => ?_))
 exact .d ⟨rfl, ⟨rfl, _, rfl, (bk h fun v52 aqn h => (aS (ny aqn) ⟨rfl, ⟨rfl, _, rfl, (bk h fun T3 Z9 h => (aS (dP Z9) (ct ⟨_, _, si h, rfl, rfl⟩ (tk [] ⟨.b, .b, ⟨⟩⟩ ⟨⟩))))⟩⟩))⟩⟩
 refine .d (sE h (fun YR h => ?_) (fun YR h => ?_))
 refine .d ⟨rfl, ⟨rfl, _, rfl, ?_⟩⟩
 obtain ⟨⟨v57, v58⟩, aqo, h⟩ := bd h
 refine aS (xh aqo) (bk h fun T4 aaa h => (aS (dP aaa) (sV h (fun HG h => ?_) (fun HG h => ?_))))
 exact .t (.t (.t (.t (bk h fun Jn JB h => (aS (dP JB) (.t (ct ⟨_, _, si h, rfl, rfl⟩ (tk [] ⟨.b, .b, ⟨⟩⟩ ⟨⟩))))))))
 refine .f (.f (sE h (fun HH h => ?_) (fun HH h => ?_)))
 exact .t (bk h fun v66 aqp h => (aS (dP aqp) (.t (ct ⟨_, _, si h, rfl, rfl⟩ (tk [] ⟨.b, .b, ⟨⟩⟩ ⟨⟩)))))
 exact .f (.f (ct ⟨_, _, si h, rfl, rfl⟩ (tk [] ⟨.b, .b, ⟨⟩⟩ ⟨⟩)))
 refine .d (sE h (fun aqq h => ?_) (fun aqq h => ?_))
 refine .d ⟨rfl, ⟨rfl, _, rfl, (.d ?_)⟩⟩
 refine le (dJ.partial_correctness a0 (motive := fun b69 y70 o77 => o3 = o77 → aG _ _ [(1, .aM 0 0 0 0), (4, .bool (a0.aD == 0)), (5, .bool b69), (8, .int .i64 y70)] [.row 0 4 1 29 (fun _ => a0.lit)]) ?_ (!(a0.aj == ([] : ar))) 0 o3 h rfl) (tk [0] ⟨.p, .b, .b, .i, ⟨⟩⟩ ⟨(cF rfl), ⟨⟩⟩)
 intro F72 am2 b69 y70 o77 h aqr
 subst aqr
 refine aG.round (.d (.d ⟨rfl, ⟨rfl, _, rfl, (sD h (fun YS h => ?_) (fun YS h => ?_))⟩⟩))
 refine .d (sV h (fun YT h => ?_) (fun YT h => ?_))
 exact ⟨rfl, (.t ⟨rfl, _, rfl, (.t (.t (bk h fun v75 aqs h => (aS (Dd aqs) (.t (.t (lg (am2 _ _ _ h rfl) (tk [0] ⟨.p, .b, .b, .i, ⟨⟩⟩ ⟨(cF rfl), ⟨⟩⟩))))))))⟩)⟩
 exact .f (.f (.f (.f (.f (lg (am2 _ _ _ h rfl) (tk [0] ⟨.p, .b, .b, .i, ⟨⟩⟩ ⟨(cF rfl), ⟨⟩⟩))))))
 exact ct ⟨_, _, si h, rfl, rfl⟩ (tk [] ⟨.b, .b, ⟨⟩⟩ ⟨⟩)
 exact ct ⟨_, _, si h, rfl, rfl⟩ (tk [] ⟨.b, .b, ⟨⟩⟩ ⟨⟩)
 rintro _ _ ⟨b1, b2, rfl, rfl, rfl⟩
 replace h := hk5
 refine .d ?_
 obtain rfl := si h
 exact en [] ⟨rfl, rfl⟩ (.bq ⟨.b, .b, ⟨⟩⟩) ⟨⟩
end Go.Am
