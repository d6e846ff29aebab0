/- Texts of the proof, joined and shortened. -/
import Derived.Test.YtalfppmpmnlnlaaGreatDoorPk3
import Derived.Test.YtalfppmpmnlnlaaGreatDoorProg
import Derived.Test.YtalfppmpmnlnlaaGreatDoorShelf
import Derived.WalkKit
import Derived.BigCall
import Derived.DataReads
import Derived.ChangeArms
set_option linter.unusedVariables false
set_option linter.unusedSimpArgs false
namespace Go.Am
open Go Go.RowKit
def look (l : List (Nat × TI)) (t : Nat) : TI := match l with
 | [] => .other
 | (k, ti) :: r => match Nat.beq t k with
  | true => ti
  | false => look r t
def u6 (l : List (Nat × TI)) : oO := ⟨look l⟩
def jz : List Value → List PV → Bool
 | [], [] => true
 | .int k n :: r, .int k' n' :: r' => qM k k' && n == n' && jz r r'
 | .bool b :: r, .bool b' :: r' => b == b' && jz r r'
 | .string s :: r, .str s' :: r' => s.data.toList == s' && jz r r'
 | .slice none 0 0 :: r, .aO :: r' => jz r r'
 | _, _ => false
def r8 (P : Program) (t n : Nat) : Bool := match P.info? t with
 | some i => Nat.beq i.size n
 | none => false
def rn (P : Program) : List Field → List (Nat × Nat × Bool) → Bool
 | [], [] => true
 | f :: r, (off, size, ag) :: r' => Nat.beq f.offset off && r8 P f.type size && Nat.blt 0 size && (match P.underlying f.type with | some d => ag == A2 d | none => false) && rn P r r'
 | _, _ => false
def Fa : Value → PV → Bool
 | .int k n, .int k' n' => qM k k' && n == n'
 | .bool b, .bool b' => b == b'
 | .string s, .str s' => s.data.toList == s'
 | _, _ => false
theorem Fb {v : Value} {z : PV} (h : Fa v z = true) : qN z v ∧ j4 z = true ∧ storable z = true := by
 unfold Fa at h
 split at h
 ·simp only [an, beq_iff_eq] at h
  obtain ⟨h1, rfl⟩ := h
  obtain rfl := eE h1
  exact ⟨rfl, rfl, rfl⟩
 ·rw [beq_iff_eq] at h; subst h; exact ⟨rfl, rfl, rfl⟩
 ·rw [beq_iff_eq] at h; subst h; exact ⟨rfl, rfl, rfl⟩
 ·cases h
def nQ (P : Program) (t : Nat) : TI → Bool
 | .int k => (match P.underlying t with | some (.int k') => qM k k' | _ => false) && r8 P t 1
 | .bool => (match P.underlying t with | some .bool => true | _ => false) && r8 P t 1
 | .str => (match P.underlying t with | some .string => true | _ => false) && r8 P t 1
 | .ptr e => (match P.underlying t with | some (.pointer e') => Nat.beq e e' | _ => false) && r8 P t 1
 | .slice e sz Oc z => (match P.underlying t with | some (.slice e') => Nat.beq e e' | _ => false) && r8 P t 1 && Nat.blt 0 sz && Nat.blt 0 Oc &&
   (match P.info? e with
    | some i => Nat.beq i.size sz && Nat.beq i.bytes Oc && (match i.zero with | some zv => Nat.beq zv.cells.size sz && jz zv.cells.toList z | none => false)
    | none => false)
 | .struct sz fl z => (!(yR z) || ER P t z) && (match P.underlying t with | some (.struct fs) => rn P fs.toList fl | _ => false) &&
   (match P.info? t with
    | some i => Nat.beq i.size sz && (match i.zero with | some zv => Nat.beq zv.cells.size sz && jz zv.cells.toList z | none => false)
    | none => false)
 | .map k e z => (match P.underlying t with | some (.map k' e') => Nat.beq k k' && Nat.beq e e' | _ => false) && r8 P t 1 && (match P.info? e with
   | some i => (match i.zero with | some zv => Fa zv z | none => false)
   | none => false)
 | .other => true
def zeroAt (P : Program) (t : Nat) (z : List PV) (n : Nat) : Bool := match P.info? t with
 | some i => match i.zero with
  | some zv => Nat.beq zv.cells.size n && Nat.beq z.length n && jz zv.cells.toList z
  | none => false
 | none => false
def Rb (P : Program) (t : Nat) (ti : TI) : Bool := nQ P t ti && (match A3 ti with | some z => zeroAt P t z (kW ti) | none => true)
theorem tP : ∀ (vs : List Value) (z : List PV), jz vs z = true → vs.length = z.length ∧ ∀ (j : Nat) (u : Value), vs[j]? = some u → ∃ pv : PV, z[j]? = some pv ∧ u.oneCell' = true ∧ ∀ S w, aT S w pv u := by
 intro vs
 induction vs with
 | nil =>
  intro z hz
  cases z with
  | nil => exact ⟨rfl, fun j u hj => by simp at hj⟩
  | cons a r => simp [jz] at hz
 | cons v vs ih =>
  intro z hz
  cases z with
  | nil => cases v <;> simp [jz] at hz
  | cons p z =>
   have step : ∀ (hz' : jz vs z = true) (QW : v.oneCell' = true) (hp : ∀ S w, aT S w p v), (v :: vs).length = (p :: z).length ∧ ∀ (j : Nat) (u : Value), (v :: vs)[j]? = some u → ∃ pv : PV, (p :: z)[j]? = some pv ∧ u.oneCell' = true ∧ ∀ S w, aT S w pv u := by
    intro hz' QW hp
    obtain ⟨h1, h2⟩ := ih z hz'
    refine ⟨by simp [h1], fun j u hj => ?_⟩
    cases j with
    | zero => simp at hj; subst hj; exact ⟨p, rfl, QW, hp⟩
    | succ j => simp at hj; obtain ⟨pv, q1, q2⟩ := h2 j u hj; exact ⟨pv, by simpa using q1, q2⟩
   cases v with
   | int k n =>
    cases p <;> simp [jz] at hz
    obtain ⟨⟨hk, hn⟩, hz⟩ := hz
    have := eE hk
    subst this hn
    exact step hz rfl fun S w => .int _ _
   | bool b =>
    cases p <;> simp [jz] at hz
    obtain ⟨hb, hz⟩ := hz
    subst hb
    exact step hz rfl fun S w => .bool _
   | string s =>
    cases p <;> simp [jz] at hz
    obtain ⟨hs, hz⟩ := hz
    subst hs
    exact step hz rfl fun S w => aT.str _
   | slice a n c =>
    cases a with
    | some a => cases p <;> simp [jz] at hz
    | none =>
     cases n with
     | succ n => cases p <;> simp [jz] at hz
     | zero =>
      cases c with
      | succ c => cases p <;> simp [jz] at hz
      | zero =>
       cases p <;> simp [jz] at hz
       exact step hz rfl fun S w => .aO
   | _ => cases p <;> simp [jz] at hz
theorem kD {P : Program} {t n : Nat} (h : r8 P t n = true) : ∃ i, P.info? t = some i ∧ i.size = n := by
 unfold r8 at h
 split at h
 ·rename_i i hi; exact ⟨i, hi, Is h⟩
 ·cases h
theorem u7 {P : Program} : ∀ (fs : List Field) (fl : List (Nat × Nat × Bool)), rn P fs fl = true → fl.length = fs.length ∧
  ∀ (k : Nat) (off size : Nat) (ag : Bool), fl[k]? = some (off, size, ag) → ∃ f j d, fs[k]? = some f ∧ f.offset = off ∧ P.info? f.type = some j ∧ j.size = size ∧ 0 < size ∧ P.underlying f.type = some d ∧ ag = A2 d
 | [], [], _ => ⟨rfl, fun k off size ag hk => by simp at hk⟩
 | [], _ :: _, h => by simp [rn] at h
 | _ :: _, [], h => by simp [rn] at h
 | f :: r, (off, size, ag) :: r', h => by
  simp only [rn, an] at h
  obtain ⟨⟨⟨⟨h1, h2⟩, h3⟩, h4⟩, h5⟩ := h
  obtain ⟨q1, q2⟩ := u7 r r' h5
  refine ⟨by simp [q1], fun k Rc ZV ag' hk => ?_⟩
  cases k with
  | zero =>
   simp at hk
   obtain ⟨rfl, rfl, rfl⟩ := hk
   obtain ⟨j, hj, Jn⟩ := kD h2
   cases hu : P.underlying f.type with
   | none => rw [hu] at h4; cases h4
   | some d =>
    rw [hu] at h4
    exact ⟨f, j, d, rfl, Is h1, hj, Jn, by simpa using h3, hu, by simpa using h4⟩
  | succ k => exact q2 k Rc ZV ag' (by simpa using hk)
theorem Hp : ∀ (l : List (Nat × TI)) (t : Nat) (ti : TI), look l t = ti → ti = .other ∨ (t, ti) ∈ l
 | [], t, ti, h => .inl h.symm
 | (k, x) :: r, t, ti, h => by
  unfold look at h
  split at h
  ·rename_i hb
   have := Is hb
   subst this h
   exact .inr agk
  ·rcases Hp r t ti h with h1 | h1
   ·exact .inl h1
   ·exact .inr (by simp [h1])
theorem ZW {P : Program} {l : List (Nat × TI)} (hl : l.all (fun p => Rb P p.1 p.2) = true) : di P (u6 l) := by
 have ZX : ∀ t ti, (u6 l).get t = ti → ti ≠ .other → Rb P t ti = true := fun t ti ht hn => by
  rcases Hp l t ti ht with h1 | h1
  ·exact (hn h1).elim
  ·exact (aei.1 hl) _ h1
 have all : ∀ t ti, (u6 l).get t = ti → ti ≠ .other → nQ P t ti = true := fun t ti ht hn => by
  have := ZX t ti ht hn
  simp only [Rb, an] at this
  exact this.1
 have zero : ∀ t z, A3 ((u6 l).get t) = some z → ∃ i zv, P.info? t = some i ∧ i.zero = some zv ∧ zv.cells.size = kW ((u6 l).get t) ∧ z.length = kW ((u6 l).get t) ∧
   ∀ (j : Nat) (u : Value), zv.cells[j]? = some u → ∃ pv : PV, z[j]? = some pv ∧ u.oneCell' = true ∧ ∀ S w, aT S w pv u := fun t z hz => by
  have := ZX t _ rfl (by intro h0; rw [h0] at hz; cases hz)
  simp only [Rb, an] at this
  have := this.2
  rw [hz] at this
  simp only [zeroAt] at this
  split at this
  ·rename_i i hi
   split at this
   ·rename_i zv hzv
    simp only [an] at this
    obtain ⟨⟨h1, h2⟩, h3⟩ := this
    obtain ⟨_, r2⟩ := tP _ _ h3
    exact ⟨i, zv, hi, hzv, Is h1, Is h2, fun j u hj => r2 j u agt⟩
   ·cases this
  ·cases this
 have one : ∀ t, kW ((u6 l).get t) = 1 → (∀ sz fl z, (u6 l).get t ≠ .struct sz fl z) → ∃ i, P.info? t = some i ∧ i.size = 1 := fun t h1 h2 => by
  cases ht : (u6 l).get t with
  | other => rw [ht] at h1; cases h1
  | struct sz fl z => exact (h2 _ _ _ ht).elim
  | int k => have := all t _ ht agk; simp only [nQ, an] at this; exact kD this.2
  | bool => have := all t _ ht agk; simp only [nQ, an] at this; exact kD this.2
  | str => have := all t _ ht agk; simp only [nQ, an] at this; exact kD this.2
  | ptr e => have := all t _ ht agk; simp only [nQ, an] at this; exact kD this.2
  | map k e z => have := all t _ ht agk; simp only [nQ, an] at this; exact kD this.1.2
  | slice e sz b z => have := all t _ ht agk; simp only [nQ, an] at this; exact kD this.1.1.1.2
 refine ⟨fun t sz fl z ht hz => by
   have := all t _ ht agk
   simp only [nQ, an, aeH, aeD] at this
   rcases this.1.1 with h | h
   ·rw [hz] at h; cases h
   ·exact h, fun t k ht => ?_, fun t ht => ?_, fun t ht => ?_, fun t e ht => ?_, fun t e sz b z ht => ?_, fun t k e z ht => ?_, fun t e sz b z ht => ?_, one, zero, fun t sz fl z ht => ?_⟩
 ·have := all t _ ht agk
  simp only [nQ, an] at this
  have := this.1
  split at this
  ·rename_i k' hu; rw [hu, eE this]
  ·cases this
 ·have := all t _ ht agk
  simp only [nQ, an] at this
  have := this.1
  split at this
  ·assumption
  ·cases this
 ·have := all t _ ht agk
  simp only [nQ, an] at this
  have := this.1
  split at this
  ·assumption
  ·cases this
 ·have := all t _ ht agk
  simp only [nQ, an] at this
  have := this.1
  split at this
  ·rename_i e' hu; rw [hu, Is this]
  ·cases this
 ·have := all t _ ht agk
  simp only [nQ, an] at this
  obtain ⟨⟨⟨⟨h1, h2⟩, h3⟩, h4⟩, h5⟩ := this
  refine ⟨?_, by simpa using h3, ?_⟩
  ·split at h1
   ·rename_i e' hu; rw [hu, Is h1]
   ·cases h1
  ·split at h5
   ·rename_i i hi
    simp only [an] at h5
    obtain ⟨⟨q1, q2⟩, q3⟩ := h5
    split at q3
    ·rename_i zv hz
     simp only [an] at q3
     obtain ⟨r1, r2⟩ := tP _ _ q3.2
     have e1 := Is q3.1
     refine ⟨i, zv, hi, Is q1, Is q2, hz, e1, ?_, fun j u hj => r2 j u agt⟩
     rw [← r1, ← e1]; simp
    ·cases q3
   ·cases h5
 ·have := all t _ ht agk
  simp only [nQ, an] at this
  obtain ⟨⟨h1, _⟩, h3⟩ := this
  refine ⟨?_, ?_⟩
  ·split at h1
   ·rename_i k' e' hu
    simp only [an] at h1
    rw [hu, Is h1.1, Is h1.2]
   ·cases h1
  ·split at h3
   ·rename_i i hi
    split at h3
    ·rename_i zv hz
     exact ⟨i, zv, hi, hz, Fb h3⟩
    ·cases h3
   ·cases h3
 ·have := all t _ ht agk
  simp only [nQ, an] at this
  simpa using this.1.2
 ·have := all t _ ht agk
  simp only [nQ, an] at this
  obtain ⟨⟨_, h1⟩, h2⟩ := this
  split at h1
  ·rename_i fs hu
   obtain ⟨q1, q2⟩ := u7 _ _ h1
   split at h2
   ·rename_i i hi
    simp only [an] at h2
    obtain ⟨r1, r2⟩ := h2
    split at r2
    ·rename_i zv hz
     simp only [an] at r2
     obtain ⟨s1, s2⟩ := tP _ _ r2.2
     have e1 := Is r2.1
     refine ⟨fs, i, hu, hi, Is r1, by simpa using q1, ⟨zv, hz, e1, by rw [← s1, ← e1]; simp, fun j u hj => s2 j u agt⟩, fun k off size ag hk => ?_⟩
     obtain ⟨f, j, d, t1, t2⟩ := q2 k off size ag hk
     exact ⟨f, j, d, by simpa using t1, t2⟩
    ·cases r2
   ·cases h2
  ·cases h1
section
variable {h η : List aj} {k : List Nat}
theorem Fz.int_eq {k' : IntKind} {n n' : Int} (he : n = n') : Fz h η k (.int k' n) (.int k' n') := by subst he; exact .int _ _
theorem Fz.KC {b b' : Bool} (he : b = b') : Fz h η k (.bool b) (.bool b') := by subst he; exact .bool _
theorem Fz.Ox {s s' : List UInt8} (he : s = s') : Fz h η k (.str s) (.str s') := by subst he; exact .str _
theorem Fz.Oy {id g sz n off len bV yb : Nat} {e : TypeId} {f f' : Nat → List PV} (hk : id ∉ k) (ho : h[id]? = some (aj.row g sz n e f)) (h1 : sz = bV) (h2 : len = yb) (hp : ∀ i, i < yb → (f' i).all bC = true)
  (hf : ∀ i, i < yb → wU h η k (f (off + i)) (f' i)) : Fz h η k (.own id g off len) (.fM bV yb f') := by
 subst h1 h2
 exact .ZY id g sz n off len e f f' hk ho (fun i hi => (wU.get _ _ (hf i hi)).1) (fun i j pv hi hj => (aei.1 (hp i hi)) pv (ael hj)) (fun i j pv fC hi h1 h2 _ => (wU.get _ _ (hf i hi)).2 j pv fC h1 h2)
theorem Fz.jZ {cs yc : List PV} (hl : wU h η k cs yc) : Fz h η k (.agg cs) (.agg yc) := .agg _ _ (wU.get _ _ hl).1 (wU.get _ _ hl).2
theorem Fz.eh {cs yc : List PV} (hl : wU h η k cs yc) : Fz h η k (.dG cs) (.dG yc) := .dG _ _ (wU.get _ _ hl).1 (wU.get _ _ hl).2
theorem JA {α : Type} {i l : Nat} {a b : α} (uq : i < l) : (bif Nat.blt i l then a else b) = a := by
 have hb : Nat.blt i l = true := by simpa using uq
 rw [hb]; rfl
theorem Oz {α : Type} {i l : Nat} {a b : α} (uq : l ≤ i) : (bif Nat.blt i l then a else b) = b := by
 have hb : Nat.blt i l = false := by
  cases hh : Nat.blt i l with
  | true =>
   have : i < l := by simpa using hh
   omega
  | false => rfl
 rw [hb]; rfl
end
theorem HW {x : Int} (h1 : -9223372036854775808 ≤ x) (h2 : x ≤ 9223372036854775807) : IntKind.i64.wrap x = x := by rw [IntKind.wrap_i64]; omega
theorem ACall.SE {P : Program} {f : FuncId} {args j7 : List PV} {R : PV → List aj → Prop} (hA : ACall P f j7 [] R) (h : List aj) (hz : wU h [] [] args j7) (hn : j7.all lF = true)
  (KD : ∀ r0 h0, R r0 h0 → Hq r0 = true ∧ ∀ o ∈ h0, wV o) :
  ACall P f args h (fun res h' => ∃ r0 h0, R r0 h0 ∧ res = pM h.length r0 ∧ h' = h ++ h0.map (fy h.length)) := by
 obtain ⟨h1, h2⟩ := wU.get _ _ hz
 exact hA.snap h h1 (fun j pv fC q1 q2 => ⟨h2 j pv fC q1 q2, (aei.1 hn) fC (ael q2)⟩) (fun r0 h0 hR => ⟨(KD r0 h0 hR).1, fun o ho => ((KD r0 h0 hR).2 o ho).p⟩)
theorem Fz.snap {h : List aj} {id g sz n off len bV yb : Nat} {e : TypeId} {f f' : Nat → List PV} (ho : h[id]? = some (aj.row g sz n e f)) (h1 : sz = bV) (h2 : len = yb) (hp : ∀ i, i < yb → (f' i).all bC = true)
  (hf : ∀ i, i < yb → wU h [] [] (f (off + i)) (f' i)) : Fz h [] [] (.own id g off len) (.fM bV yb f') := .Oy agk ho h1 h2 hp hf
theorem ACall.heq {P : Program} {f : FuncId} {args : List PV} {h h2 : List aj} {R : PV → List aj → Prop} (hA : ACall P f args h R) (he : dO h2 h) : ACall P f args h2 R := by
 refine ⟨hA.1, fun w vs μ S hH hM iQ ha => ?_⟩
 obtain ⟨hH2, hM2⟩ := he.core ⟨hH, hM⟩
 refine (hA.2 w vs μ S hH2 hM2 iQ (fun j pv hj => ?_)).mono ?_
 ·obtain ⟨v, h1, h3⟩ := ha j pv hj
  exact ⟨v, h1, he.LB h3⟩
 ·rintro e w' ⟨v, res, h', μ', S', rfl, hr, hv, hH', hM', hF⟩
  refine ⟨v, res, h', μ', S', rfl, hr, hv, hH', hM', ⟨by rw [he.len]; exact hF.len, fun b hb ho => hF.blocks b hb (fun hx => ho (he.x7 hx)), hF.sub, fun b hb => ?_, fun b hb => ?_, hF.size, hF.os, hF.tape, hF.output, fun id g sz n e f hid => ?_, fun id hid => hF.dead id (he.getD hid), fun b k ho hc => hF.bN b k (he.owned ho) hc, fun id g sz n e f b base hid hm nX => ?_, fun b x y z hx nX => hF.u5 b x y z (he.hid hx) nX⟩⟩
  ·rcases hF.new b hb with h1 | h1 | h1
   ·exact .inl h1
   ·exact .inr (.inl (he.x7 h1))
   ·exact .inr (.inr h1)
  ·rcases hF.own b hb with h1 | h1
   ·exact .inl (he.x7 h1)
   ·exact .inr h1
  ·obtain ⟨f', h1, _⟩ := he.get hid
   exact hF.Bl id g sz n e f' h1
  ·obtain ⟨f', h1, _⟩ := he.get hid
   exact hF.maps id g sz n e f' b base h1 hm nX
abbrev ba := List UInt8
abbrev ah (x : Int) : Int := IntKind.i64.wrap x
theorem bind_some {α β : Type} {x : Option α} {f : α → Option β} {r : β} (h : (x >>= f) = some r) : ∃ a, x = some a ∧ f a = some r := by
 cases x with
 | none => cases h
 | some a => exact ⟨a, rfl, h⟩
def idx {α : Type} [Inhabited α] (l : List α) (i : Int) : Option α := if 0 ≤ i ∧ i < (l.length : Int) then some (l.getD i.toNat default) else none
def vn (s : ba) (i : Int) : Option UInt8 := if 0 ≤ i ∧ i < (s.length : Int) then some (s.getD i.toNat 0) else none
def Gy (s : ba) (lo : Int) : Option ba := if 0 ≤ lo ∧ lo ≤ (s.length : Int) then some (s.drop lo.toNat) else none
def RW {α : Type} (s : List α) (hi : Int) : Option (List α) := if 0 ≤ hi ∧ hi ≤ (s.length : Int) then some (s.take hi.toNat) else none
def gZ (a b : ba) : Option ba := if a.length + b.length ≤ 4611686018427387904 then some (a ++ b) else none
def kV {α : Type} (bytes : Nat) (a b : List α) : Option (List α) := if (a.length + b.length) * bytes ≤ 140737488355328 then some (a ++ b) else none
def nv {α : Type} [Inhabited α] (bytes : Nat) (n m : Int) : Option (List α) := if 0 ≤ n ∧ n ≤ m ∧ m ≤ 4611686018427387904 ∧ m.toNat * bytes ≤ 140737488355328 then some (List.replicate n.toNat default) else none
theorem dw {α : Type} {c : Prop} [Decidable c] {x r : α} (h : (if c then some x else none) = some r) : c ∧ x = r := by
 by_cases hc : c
 ·rw [if_pos hc] at h; exact ⟨hc, aeq h⟩
 ·rw [if_neg hc] at h; cases h
section
variable {α : Type} {x y r : α}
theorem ZZ {p : Prop} [Decidable p] (hb : decide p = true) (h : (if p then x else y) = r) : x = r := by rw [if_pos (of_decide_eq_true hb)] at h; exact h
theorem Z0 {p : Prop} [Decidable p] (hb : decide p = false) (h : (if p then x else y) = r) : y = r := by rw [if_neg (of_decide_eq_false hb)] at h; exact h
theorem OA {β : Type} [BEq β] [LawfulBEq β] {a b : β} [Decidable (a = b)] (hb : (a == b) = true) (h : (if a = b then x else y) = r) : x = r := by rw [if_pos (eq_of_beq hb)] at h; exact h
theorem OB {β : Type} [BEq β] [LawfulBEq β] {a b : β} [Decidable (a = b)] (hb : (a == b) = false) (h : (if a = b then x else y) = r) : y = r := by rw [if_neg (ne_of_beq_false hb)] at h; exact h
theorem Z1 {β : Type} [BEq β] [LawfulBEq β] {a b : β} [Decidable (a = b)] (hb : (a != b) = true) (h : (if a = b then x else y) = r) : y = r := OB (by simpa [bne] using hb) h
theorem Z2 {β : Type} [BEq β] [LawfulBEq β] {a b : β} [Decidable (a = b)] (hb : (a != b) = false) (h : (if a = b then x else y) = r) : x = r := OA (by simpa [bne] using hb) h
theorem SF {b : Bool} (hb : b = true) (h : (if b = true then x else y) = r) : x = r := by rw [if_pos hb] at h; exact h
theorem SG {b : Bool} (hb : b = false) (h : (if b = true then x else y) = r) : y = r := by rw [if_neg (by rw [hb]; decide)] at h; exact h
end
theorem SH {b : Bool} (h : (!b) = false) : b = true := by cases b <;> simp_all
theorem SI {b : Bool} (h : (!b) = true) : b = false := by cases b <;> simp_all
theorem OC {T F : Prop} (h : T) : eH true T F := .mk (fun _ => h) (fun h => by cases h)
theorem OD {T F : Prop} (h : F) : eH false T F := .mk (fun h => by cases h) (fun _ => h)
theorem LJ {b : Bool} {T F : Prop} (hb : b = true) (h : T) : eH b T F := .mk (fun _ => h) (fun h => by rw [hb] at h; cases h)
theorem LK {b : Bool} {T F : Prop} (hb : b = false) (h : F) : eH b T F := .mk (fun h => by rw [hb] at h; cases h) (fun _ => h)
section
variable {α : Type} {l m : List α} {lo hi : Int}
theorem Jz (h : RW l hi = some m) : 0 ≤ hi ∧ hi ≤ (l.length : Int) := (dw h).1
theorem gd {b : Nat} {q : List α} (h : kV b l m = some q) : (l.length + m.length) * b ≤ 140737488355328 := (dw h).1
theorem dP {b : Nat} {q : List α} (h : kV b l m = some q) : q.length = l.length + m.length := by rw [← (dw h).2]; simp
theorem V6 (h : RW l hi = some m) : m.length ≤ l.length := by
 have h1 := (dw h).1
 have h2 := (dw h).2
 subst h2
 rw [List.length_take]
 exact Nat.min_le_right _ _
theorem E9 (h : RW l hi = some m) : m.length = hi.toNat := by
 have hb := Jz h
 rw [← (dw h).2]; simp; omega
end
def row {α : Type} (c : α → List PV) (l : List α) : Nat → List PV := fun i => (l.map c).getD i []
abbrev sl {α : Type} (sz : Nat) (c : α → List PV) (l : List α) : PV := .fM sz l.length (row c l)
def cI (x : Int) : List PV := [.int .i64 x]
def Wb (k : IntKind) (x : Int) : List PV := [.int k x]
def cB (x : UInt8) : List PV := [.int .u8 x.toNat]
def cT (x : Bool) : List PV := [.bool x]
def cS (x : ba) : List PV := [.str x]
def cL {α : Type} (sz : Nat) (c : α → List PV) (x : List α) : List PV := [sl sz c x]
section
variable {α : Type} {c : α → List PV} {l m : List α} {x x' : α} {i lo hi : Int}
theorem mI (x : Int) : (cI x).all bC = true := rfl
theorem LL (k : IntKind) (x : Int) : (Wb k x).all bC = true := rfl
theorem Kj (x : UInt8) : (cB x).all bC = true := rfl
theorem Re (x : Bool) : (cT x).all bC = true := rfl
theorem Rf (x : ba) : (cS x).all bC = true := rfl
theorem Rg {β : Type} (sz : Nat) (d : β → List PV) (x : List β) : (cL sz d x).all bC = true := rfl
theorem qj (x : Int) : cB (UInt8.ofNat (IntKind.u8.wrap x).toNat) = [.int .u8 (IntKind.u8.wrap x)] := by
 have h : 0 ≤ IntKind.u8.wrap x ∧ IntKind.u8.wrap x < 256 := by
  have := IntKind.wrap_u8 x
  omega
 unfold cB
 congr 2
 rw [UInt8.toNat_ofNat']
 omega
theorem kX {k : Nat} (h : k < l.length) : row c l k = c l[k] := by unfold row; simp [aee, h]
theorem jF {k : Nat} (h : l[k]? = some x) : row c l k = c x := by unfold row; simp [aee, h]
theorem kE (hp : ∀ x, (c x).all bC = true) (k : Nat) : (row c l k).all bC = true := by
 by_cases h : k < l.length
 ·rw [kX h]; exact hp _
 ·unfold row; simp [aee, aeC (show l.length ≤ k by omega)]
theorem Dg {s : ba} {k : Nat} (h : k < s.length) : row cB s k = [.int .u8 (s.getD k 0).toNat] := by
 rw [kX h]; simp [cB, aee, h]
theorem oy {s : ba} {b : UInt8} (h : vn s i = some b) : 0 ≤ i ∧ i < (s.length : Int) := (dw h).1
theorem oz {s : ba} {b : UInt8} (h : vn s i = some b) : s.getD i.toNat 0 = b := (dw h).2
theorem Nd {s t : ba} (h : Gy s lo = some t) : 0 ≤ lo ∧ lo ≤ (s.length : Int) := (dw h).1
theorem Nf {s t : ba} (h : Gy s lo = some t) : s.drop lo.toNat = t := (dw h).2
theorem bZ {s t u : ba} (h : gZ s t = some u) : s.length + t.length ≤ 4611686018427387904 := (dw h).1
theorem b8 {s t u : ba} (h : gZ s t = some u) : s ++ t = u := (dw h).2
theorem Rh (h : RW l hi = some m) : ∀ i, i < m.length → row c m i = row c l i := fun i Mh => by
 have hl := E9 h
 have hm : l[i]? = some m[i] := by
  rw [← As Mh, ← (dw h).2, List.getElem?_take, if_pos agi]
 rw [kX Mh, jF hm]
def u9 (c : α → List PV) (f : Nat → List PV) (off : Nat) (l : List α) : Prop := ∀ i, i < l.length → f (off + i) = row c l i
theorem bg : u9 c (row c l) 0 l := fun i _ => by rw [No]
theorem LI {f : Nat → List PV} {off : Nat} (hs : u9 c f off l) (h : RW l hi = some m) : u9 c f off m := fun i Mh => by
 have hb := Jz h
 have hl := E9 h
 rw [Rh h i Mh]; exact hs _ agi
theorem qk {s : ba} {f : Nat → List PV} {off n : Nat} (hs : u9 cB f off s) (hn : s.length = n) : ∀ i, i < n → f (off + i) = [.int .u8 (s.getD i 0).toNat] := fun i hi => by
 subst hn
 rw [hs i hi]; exact Dg hi
theorem eo {b : Nat} {q : List α} {f g : Nat → List PV} {off : Nat} (h : kV b l m = some q) (hf : u9 c f off l) (hg : ∀ i, i < m.length → g i = row c m i) :
  ∀ i, i < q.length → nP (bif Nat.blt i l.length then f (off + i) else g (i - l.length)) (row c q i) := fun i Mh => by
 have hl := dP h
 have e : q = l ++ m := (dw h).2.symm
 subst e
 by_cases uq : i < l.length
 ·rw [JA uq, hf i uq, kX Mh, kX uq, List.getElem_append_left uq]; exact nP.refl _
 ·rw [Oz agi, hg _ agi, kX Mh, kX agi, afh agi]; exact nP.refl _
theorem EJ : ∀ i, i < m.length → row c m i = row c m i := fun _ _ => rfl
theorem oF {f : Nat → List PV} {off : Nat} (hs : u9 c f off m) : ∀ i, i < m.length → f (off + i) = row c m i := hs
theorem rS {s : ba} : ∀ i, i < s.length → [PV.int .u8 (s.getD i 0).toNat] = row cB s i := fun i hi => (Dg hi).symm
def Xf : List (List PV) → List (List PV) → Prop
 | [], [] => True
 | a :: l, b :: r => nP a b ∧ Xf l r
 | _, _ => False
theorem oY {a b lit : List PV} {l r : List (List PV)} (e : b = lit) (h : nP a lit) (t : Xf l r) : Xf (a :: l) (b :: r) := ⟨by rw [e]; exact h, t⟩
theorem eg : ∀ {l r : List (List PV)}, l = r → Xf l r
 | [], _, rfl => trivial
 | a :: l, _, rfl => ⟨nP.refl _, eg rfl⟩
theorem KE : ∀ {l r : List (List PV)}, Xf l r → ∀ i, nP (l.getD i []) (r.getD i [])
 | [], [], _, i => by simp; exact trivial
 | a :: l, b :: r, h, 0 => h.1
 | a :: l, b :: r, h, i + 1 => by simpa using KE h.2 i
 | [], _ :: _, h, _ => h.elim
 | _ :: _, [], h, _ => h.elim
theorem dN (c : α → List PV) (l : List α) {n : Nat} {cs : List (List PV)} (hn : n = l.length) (h : Xf cs (l.map c)) : ∀ i, i < n → nP (cs.getD i []) (row c l i) := fun i _ => KE h i
theorem ou {k n off : Nat} {c0 cv lit : List PV} (hk : k < l.length) (he : c x' = lit) (hc : nP (fN c0 off cv) lit) : ∀ j, j < n → nP (bw (row c l) k (fN c0 off cv) j) (row c (l.set k x') j) := fun j _ => by
 rw [← he] at hc
 unfold row bw
 by_cases hj : j = k
 ·subst hj
  simpa [aee, hk] using hc
 ·have : Nat.beq j k = false := by
   cases hb : Nat.beq j k with
   | false => rfl
   | true => exact absurd (Is hb) hj
  rw [this]
  simp only [cond_false, aee, aet, aeJ (Ne.symm hj)]
  exact nP.refl _
theorem aM {c0 cv new : List PV} {off : Nat} {f : Nat → List PV} (h : new = fN c0 off cv) : ∀ j, j < 1 → nP (bw f 0 (fN c0 off cv) j) ((fun _ => new) j) := fun j hj => by
 obtain rfl : j = 0 := by omega
 subst h
 exact nP.refl _
end
section
variable {α : Type} [Inhabited α] {c : α → List PV} {l m : List α} {x x' : α} {i lo hi : Int}
theorem aI (h : idx l i = some x) : 0 ≤ i ∧ i < (l.length : Int) := (dw h).1
theorem OE (h : idx l i = some x) : l[i.toNat]? = some x := by
 have hb := aI h
 have hl : i.toNat < l.length := by omega
 rw [← (dw h).2, aee, As hl]; rfl
theorem gY (h : idx l i = some x) : i.toNat < l.length := by have hb := aI h; omega
theorem aF (h : idx l i = some x) : row c l i.toNat = c x := jF (OE h)
theorem lZ {b : Nat} {n k : Int} {q : List α} (h : nv b n k = some q) : 0 ≤ n ∧ n ≤ k ∧ k ≤ 4611686018427387904 ∧ k.toNat * b ≤ 140737488355328 := (dw h).1
theorem jI {b : Nat} {n k : Int} {q : List α} (h : nv b n k = some q) : q.length = n.toNat := by rw [← (dw h).2]; simp
theorem qU {b : Nat} {n k : Int} {q : List α} {z lit : List PV} (h : nv b n k = some q) (he : c default = lit) (hz : nP z lit) : ∀ i, i < q.length → nP z (row c q i) := fun i Mh => by
 have hl := jI h
 rw [jF (x := default) (by rw [← (dw h).2, List.getElem?_replicate, if_pos agi]), he]
 exact hz
end
section
variable {h η : List aj} {k : List Nat}
theorem zW {pv : PV} (hp : bC pv = true) : Fz h η k pv pv := by
 cases pv with
 | int k n => exact .int _ _
 | bool b => exact .bool _
 | str s => exact .str _
 | aO => exact .aO
 | fM sz n f => exact .fM _ _ _ _ (fun _ _ => rfl)
 | fx cs => exact .fx _
 | fn f => exact .fn _
 | _ => cases hp
theorem mJ : ∀ {l : List PV}, l.all bC = true → wU h η k l l
 | [], _ => trivial
 | a :: l, hp => by
  simp only [afc, an] at hp
  exact ⟨zW hp.1, mJ hp.2⟩
theorem Wc {cs : List PV} (hp : cs.all bC = true) : Fz h η k (.agg cs) (.agg cs) := .jZ (mJ hp)
theorem Ow {α : Type} {c : α → List PV} (hp : ∀ x, (c x).all bC = true) {f : Nat → List PV} {m : List α} (hs : u9 c f 0 m) : ∀ i, i < m.length → wU h η k (f i) (row c m i) := fun i hi => by
 have h1 := hs i hi
 rw [No] at h1
 rw [h1]
 exact mJ (kE hp i)
def JB (h η : List aj) (k : List Nat) : List (Nat × Nat) → List (Nat × Nat) → Prop
 | [], [] => True
 | p :: r, p' :: r' => (k[p'.1]? = some p.1 ∧ (∃ sz n e f, h[p.1]? = some (aj.row p.2 sz n e f)) ∧ ∃ sz n e f, η[p'.1]? = some (aj.row p'.2 sz n e f) ∧ 0 < n) ∧ JB h η k r r'
 | _, _ => False
theorem JB.get : ∀ (l l' : List (Nat × Nat)), JB h η k l l' → l'.length = l.length ∧ ∀ (j : Nat) (p p' : Nat × Nat), l[j]? = some p → l'[j]? = some p' →
  k[p'.1]? = some p.1 ∧ (∃ sz n e f, h[p.1]? = some (aj.row p.2 sz n e f)) ∧ ∃ sz n e f, η[p'.1]? = some (aj.row p'.2 sz n e f) ∧ 0 < n
 | [], [], _ => ⟨rfl, fun j p p' hj _ => by simp at hj⟩
 | [], _ :: _, hh => hh.elim
 | _ :: _, [], hh => hh.elim
 | q :: r, q' :: r', hh => by
  obtain ⟨h1, h2⟩ := hh
  obtain ⟨q1, q2⟩ := JB.get r r' h2
  refine ⟨by simp [q1], fun j p p' hj Ha => ?_⟩
  cases j with
  | zero =>
   simp at hj Ha
   subst hj Ha
   exact h1
  | succ j => exact q2 j p p' agt (by simpa using Ha)
theorem Fz.Df {f : Nat} {bN wW : List (Nat × Nat)} (hh : JB h η k bN wW) : Fz h η k (.om f bN) (.om f wW) := .om f bN wW (JB.get _ _ hh).1 (JB.get _ _ hh).2
theorem OF {α : Type} {c : α → List PV} (hp : ∀ x, (c x).all bC = true) {id g sz n off : Nat} {e : TypeId} {f : Nat → List PV} {l : List α} (hk : id ∉ k) (ho : h[id]? = some (aj.row g sz n e f)) (hs : u9 c f off l) :
  Fz h η k (.own id g off l.length) (sl sz c l) :=
 .Oy hk ho rfl rfl (fun i hi => kE hp i) (fun i hi => by rw [hs i hi]; exact mJ (kE hp i))
theorem Ri {α : Type} {c : α → List PV} (hp : ∀ x, (c x).all bC = true) {id g sz n off len : Nat} {e : TypeId} {f : Nat → List PV} {l : List α} (hk : id ∉ k) (ho : h[id]? = some (aj.row g sz n e f)) (hs : u9 c f off l) (hl : len = l.length) :
  Fz h η k (.own id g off len) (sl sz c l) := by subst hl; exact OF hp hk ho hs
end
theorem AM {α : Type} {c : α → List PV} (hp : ∀ x, (c x).all bC = true) (N g sz n : Nat) (e : TypeId) (l : List α) : fy N (.row g sz n e (row c l)) = .row g sz n e (row c l) := by
 suffices e : (fun i => (row c l i).map (mZ N)) = row c l by unfold fy; simp only [e]
 funext i
 have h := kE (l := l) hp i
 generalize row c l i = q at h
 induction q with
 | nil => rfl
 | cons a r ih =>
  simp only [afc, an] at h
  rw [aeg, ih h.2]
  cases a <;> first | rfl | cases h.1
theorem kC {α : Type} {c : α → List PV} (hp : ∀ x, (c x).all bC = true) (σ : Nat → Nat) (g sz n : Nat) (e : TypeId) (l : List α) : tQ σ (.row g sz n e (row c l)) = .row g sz n e (row c l) := by
 suffices e : (fun i => (row c l i).map (pN σ)) = row c l by unfold tQ; simp only [e]
 funext i
 have h := kE (l := l) hp i
 generalize row c l i = q at h
 induction q with
 | nil => rfl
 | cons a r ih =>
  simp only [afc, an] at h
  rw [aeg, ih h.2]
  cases a <;> first | rfl | cases h.1
theorem ACall.Z3 {P : Program} {f : FuncId} {args : List PV} {r0 : PV} (hA : ACall P f args [] (fun res h => res = r0 ∧ h = [])) (h : List aj) (hp : args.all Dh = true) (hr : ∀ n, pM n r0 = r0) :
  ACall P f args h (fun res h' => res = r0 ∧ h' = h) :=
 (hA.frame h hp).mono (by rintro _ _ ⟨_, _, ⟨rfl, rfl⟩, rfl, rfl⟩; exact ⟨hr _, by simp⟩)
theorem ACall.Z4 {P : Program} {f : FuncId} {args j7 : List PV} {r0 : PV} (hA : ACall P f j7 [] (fun res h => res = r0 ∧ h = [])) (h : List aj) (hz : wU h [] [] args j7) (hn : j7.all lF = true) (hf : Hq r0 = true) (hr : ∀ n, pM n r0 = r0) :
  ACall P f args h (fun res h' => res = r0 ∧ h' = h) :=
 (hA.SE h hz hn (by rintro _ _ ⟨rfl, rfl⟩; exact ⟨hf, by simp⟩)).mono (by rintro _ _ ⟨_, _, ⟨rfl, rfl⟩, rfl, rfl⟩; exact ⟨hr _, by simp⟩)
section
variable {κ β : Type} [DecidableEq κ]
def hJ : List (κ × β) → κ → Option β
 | [], _ => none
 | (a, b) :: r, k => if k = a then some b else hJ r k
def rF (l : List (κ × β)) (k : κ) (z : β) : β := (hJ l k).getD z
def sM (l : List (κ × β)) (k : κ) : Bool := (hJ l k).isSome
def fp : List (κ × β) → κ → β → List (κ × β)
 | [], k, v => [(k, v)]
 | (a, b) :: r, k, v => if k = a then (k, v) :: r else (a, b) :: fp r k v
def mc (c : κ → PV) (d : β → PV) (p : κ × β) : List PV := [c p.1, d p.2]
def scP : PV → Bool
 | .agg cs => cs.all bC
 | v => bC v
theorem ur {c : κ → PV} {d : β → PV} {ti : TI} (he : ∀ a b, ky ti (c a) (c b) = some (decide (a = b))) : ∀ (l : List (κ × β)) (k : κ) (n : Nat), n ≤ l.length → (∀ j, j < n → ∀ p, l[j]? = some p → k ≠ p.1) → Dc ti (row (mc c d) l) n (c k) := fun l k n hn h j hj => by
 have bP : j < l.length := by omega
 refine ⟨c l[j].1, d l[j].2, by rw [kX bP]; rfl, ?_⟩
 rw [he, decide_eq_false (h j hj _ (As bP))]
theorem Hr : ∀ (l : List (κ × β)) (k : κ) (b : β), hJ l k = some b → ∃ i, i < l.length ∧ l[i]? = some (k, b) ∧ ∀ j, j < i → ∀ p, l[j]? = some p → k ≠ p.1
 | [], _, _, h => by cases h
 | (a, b0) :: r, k, b, h => by
  unfold hJ at h
  by_cases hk : k = a
  ·rw [if_pos hk] at h
   obtain rfl := aeq h
   subst hk
   exact ⟨0, by simp, rfl, fun j hj => absurd hj (aeB _)⟩
  ·rw [if_neg hk] at h
   obtain ⟨i, h1, h2, h3⟩ := Hr r k b h
   refine ⟨i + 1, by simpa using h1, by simpa using h2, fun j hj p hp => ?_⟩
   cases j with
   | zero => simp at hp; subst hp; exact hk
   | succ j => exact h3 j agi p agF
theorem vG : ∀ (l : List (κ × β)) (k : κ), hJ l k = none → ∀ (j : Nat) (p : κ × β), l[j]? = some p → k ≠ p.1
 | [], _, _, j, p, hp => by simp at hp
 | (a, b0) :: r, k, h, j, p, hp => by
  unfold hJ at h
  by_cases hk : k = a
  ·rw [if_pos hk] at h; cases h
  ·rw [if_neg hk] at h
   cases j with
   | zero => simp at hp; subst hp; exact hk
   | succ j => exact vG r k h j p agF
theorem qY {c : κ → PV} {d : β → PV} {ti : TI} (he : ∀ a b, ky ti (c a) (c b) = some (decide (a = b))) (l : List (κ × β)) (k : κ) (z : β) : OH ti (row (mc c d) l) l.length (c k) (d z) (d (rF l k z)) (sM l k) := by
 unfold rF sM
 cases h : hJ l k with
 | some b =>
  obtain ⟨i, h1, h2, h3⟩ := Hr l k b h
  exact .inl ⟨rfl, i, h1, ur he l k i agi h3, c k, by rw [jF h2]; rfl, by rw [he, decide_eq_true rfl]⟩
 | none => exact .inr ⟨rfl, rfl, ur he l k _ (aeb _) (fun j _ p hp => vG l k h j p hp)⟩
theorem Di : ∀ (l : List (κ × β)) (k : κ) (v : β), hJ l k = none → fp l k v = l ++ [(k, v)]
 | [], _, _, _ => rfl
 | (a, b0) :: r, k, v, h => by
  unfold hJ at h
  unfold fp
  by_cases hk : k = a
  ·rw [if_pos hk] at h; cases h
  ·rw [if_neg hk] at h
   rw [if_neg hk, Di r k v h]; rfl
theorem Dj : ∀ (l : List (κ × β)) (k : κ) (v b : β), hJ l k = some b → ∃ i, i < l.length ∧ l[i]? = some (k, b) ∧ (∀ j, j < i → ∀ p, l[j]? = some p → k ≠ p.1) ∧ (fp l k v).length = l.length ∧ (fp l k v)[i]? = some (k, v) ∧ ∀ j, j ≠ i → (fp l k v)[j]? = l[j]?
 | [], _, _, _, h => by cases h
 | (a, b0) :: r, k, v, b, h => by
  unfold hJ at h
  unfold fp
  by_cases hk : k = a
  ·rw [if_pos hk] at h
   obtain rfl := aeq h
   rw [if_pos hk]
   subst hk
   exact ⟨0, by simp, rfl, fun j hj => absurd hj (aeB _), by simp, rfl, fun j hj => by cases j with | zero => exact absurd rfl hj | succ j => rfl⟩
  ·rw [if_neg hk] at h
   obtain ⟨i, h1, h2, h3, h4, h5, h6⟩ := Dj r k v b h
   rw [if_neg hk]
   refine ⟨i + 1, by simpa using h1, by simpa using h2, fun j hj p hp => ?_, by simpa using h4, by simpa using h5, fun j hj => ?_⟩
   ·cases j with
    | zero => simp at hp; subst hp; exact hk
    | succ j => exact h3 j agi p agF
   ·cases j with
    | zero => rfl
    | succ j => simpa using h6 j agi
theorem um {c : κ → PV} {d : β → PV} {ti : TI} (he : ∀ a b, ky ti (c a) (c b) = some (decide (a = b))) (l : List (κ × β)) (k : κ) (v : β) : Z5 ti (row (mc c d) l) l.length (c k) (d v) (fp l k v).length (row (mc c d) (fp l k v)) := by
 cases h : hJ l k with
 | some b =>
  obtain ⟨i, h1, h2, h3, h4, h5, h6⟩ := Dj l k v b h
  refine .inl ⟨i, d b, ⟨h1, ur he l k i agi h3, c k, by rw [jF h2]; rfl, by rw [he, decide_eq_true rfl]⟩, h4, by rw [jF h5]; rfl, fun j hj iN => ?_⟩
  rw [jF (As hj), jF ((h6 j iN).trans (As hj))]
 | none =>
  rw [Di l k v h]
  refine .inr ⟨ur he l k _ (aeb _) (fun j _ p hp => vG l k h j p hp), by simp, ?_, fun j hj => ?_⟩
  ·rw [jF (x := (k, v)) agk]; rfl
  ·rw [jF (As hj), jF (x := l[j]) (by rw [aeA hj, As hj])]
end
theorem SJ {h η : List aj} {k : List Nat} {pv : PV} (hp : scP pv = true) : Fz h η k pv pv := by
 cases pv with
 | agg cs => exact Wc hp
 | _ => exact zW hp
theorem Ez {h η : List aj} {k : List Nat} {κ β : Type} {c : κ → PV} {d : β → PV} (hc : ∀ x, scP (c x) = true) (hd : ∀ x, scP (d x) = true) {l : List (κ × β)} {n : Nat} : ∀ i, i < n → wU h η k (row (mc c d) l i) (row (mc c d) l i) := fun i _ => by
 by_cases h : i < l.length
 ·rw [kX h]; exact ⟨SJ (hc _), SJ (hd _), trivial⟩
 ·unfold row; simp [aee, aeC (show l.length ≤ i by omega)]; trivial
theorem oE (a b : ba) : ky .str (.str a) (.str b) = some (decide (a = b)) := by
 simp only [ky]
 have e : (a == b) = decide (a = b) := by rw [aeF]; simp
 rw [e]
theorem rf : ∀ o ∈ ([] : List aj), wV o := fun _ h => absurd h List.not_mem_nil
theorem pD {a : aj} {l : List aj} (h1 : wV a) (h2 : ∀ o ∈ l, wV o) : ∀ o ∈ a :: l, wV o := fun o h => by
 rcases aej.1 h with rfl | h
 ·exact h1
 ·exact h2 o h
theorem re {α : Type} {c : α → List PV} (hf : ∀ x, (c x).all oq = true) {g sz : Nat} {e : TypeId} {l : List α} : wV (.row g sz l.length e (row c l)) := fun i hi => by
 rw [kX hi]; exact hf _
theorem ln {a b : Nat} (h : a = b := by first | rfl | simp) : a = b := h
class oP {α : Type} (c : α → List PV) : Prop where
 pure : ∀ x, (c x).all bC = true
instance : oP cI := ⟨mI⟩
instance (k : IntKind) : oP (Wb k) := ⟨LL k⟩
instance : oP cB := ⟨Kj⟩
instance : oP cT := ⟨Re⟩
instance : oP cS := ⟨Rf⟩
instance {α : Type} (sz : Nat) (c : α → List PV) : oP (cL sz c) := ⟨Rg sz c⟩
instance (a b : IntKind) : oP (mc (PV.int a) (PV.int b)) := ⟨fun _ => rfl⟩
instance (a : IntKind) : oP (mc (PV.int a) PV.bool) := ⟨fun _ => rfl⟩
instance (a : IntKind) : oP (mc (PV.int a) PV.str) := ⟨fun _ => rfl⟩
instance (b : IntKind) : oP (mc PV.str (PV.int b)) := ⟨fun _ => rfl⟩
instance : oP (mc PV.str PV.bool) := ⟨fun _ => rfl⟩
instance : oP (mc PV.str PV.str) := ⟨fun _ => rfl⟩
def SK {α : Type} (l : List α) (off : Nat) (s : List α) : List α := l.mapIdx fun i x => if i < off then x else if i < off + s.length then s.getD (i - off) x else x
@[simp] theorem Xg {α : Type} (l : List α) (off : Nat) (s : List α) : (SK l off s).length = l.length := by unfold SK; simp
section
variable {h η : List aj} {k : List Nat}
theorem Fz.i {q : IntKind} {a b : Int} (e : a = b := by rfl) : Fz h η k (.int q a) (.int q b) := .int_eq e
theorem Fz.b {a b : Bool} (e : a = b := by rfl) : Fz h η k (.bool a) (.bool b) := .KC e
theorem Fz.s {a b : List UInt8} (e : a = b := by rfl) : Fz h η k (.str a) (.str b) := .Ox e
theorem Fz.l {sz n : Nat} {f : Nat → List PV} : Fz h η k (.fM sz n f) (.fM sz n f) := .fM _ _ _ _ (fun _ _ => rfl)
theorem Fz.z {α : Type} {c : α → List PV} {sz : Nat} : Fz h η k .aO (sl sz c []) := .SL _ _
theorem Fz.g {id id' g' bV : Nat} {e' : TypeId} {f' : Nat → List PV} (hk : k[id']? = some id := by rfl) (ho : h[id]? = none := by rfl) (hη : η[id']? = some (aj.row g' bV 0 e' f') := by rfl) : Fz h η k .aO (.own id' g' 0 0) := .Z6 id id' g' bV e' f' hk ho hη
theorem Fz.o {id id' g g' sz bV n len : Nat} {e e' : TypeId} {f f' : Nat → List PV} (hk : k[id']? = some id := by rfl) (ho : h[id]? = some (aj.row g sz n e f) := by rfl) (hη : η[id']? = some (aj.row g' bV len e' f') := by rfl) : Fz h η k (.own id g 0 len) (.own id' g' 0 len) :=
 .own _ _ _ _ _ _ _ _ _ _ _ _ _ _ hk ho hη (Nat.le_of_eq (No _))
theorem Fz.ox {id id' g g' sz bV n len yb : Nat} {e e' : TypeId} {f f' : Nat → List PV} (hl : len = yb) (hk : k[id']? = some id := by rfl) (ho : h[id]? = some (aj.row g sz n e f) := by rfl) (hη : η[id']? = some (aj.row g' bV yb e' f') := by rfl) : Fz h η k (.own id g 0 len) (.own id' g' 0 yb) := by
 subst hl; exact Fz.o hk ho hη
theorem Fz.p {id id' g g' sz bV n n' off : Nat} {e e' : TypeId} {f f' : Nat → List PV} (hk : k[id']? = some id := by rfl) (ho : h[id]? = some (aj.row g sz n e f) := by rfl) (hη : η[id']? = some (aj.row g' bV (n' + 1) e' f') := by rfl) : Fz h η k (.aN id g 0 off) (.aN id' g' 0 off) :=
 .aN _ _ _ _ _ _ _ _ _ _ _ _ _ _ hk ho hη (Nat.succ_pos _)
theorem Fz.m {id id' g g' sz bV n n' : Nat} {e e' : TypeId} {f f' : Nat → List PV} (hk : k[id']? = some id := by rfl) (ho : h[id]? = some (aj.row g sz n e f) := by rfl) (hη : η[id']? = some (aj.row g' bV n' e' f') := by rfl) : Fz h η k (.kN id) (.kN id') :=
 .kN _ _ _ _ _ _ _ _ _ _ _ _ hk ho hη
theorem Fz.j {pv : PV} : Fz h η k pv .jc := .jc _
theorem Fz.f {n : Nat} : Fz h η k (.fn n) (.fn n) := .fn _
theorem Fz.r {α : Type} {c : α → List PV} [oP c] {id g sz n : Nat} {e : TypeId} {l : List α} (ho : h[id]? = some (aj.row g sz n e (row c l)) := by rfl) (hk : id ∉ k := by first | decide | simp) : Fz h η k (.own id g 0 l.length) (sl sz c l) := OF oP.pure hk ho bg
theorem Fz.rx {α : Type} {c : α → List PV} [oP c] {id g sz n len : Nat} {e : TypeId} {l : List α} (hl : len = l.length) (ho : h[id]? = some (aj.row g sz n e (row c l)) := by rfl) (hk : id ∉ k := by first | decide | simp) : Fz h η k (.own id g 0 len) (sl sz c l) := Ri oP.pure hk ho bg hl
variable {m : Nat}
theorem od {α : Type} {c : α → List PV} [oP c] {id g sz : Nat} {e : TypeId} {l : List α} (ho : h[id]? = some (aj.row g sz l.length e (row c l)) := by rfl) : vH h η k m (.row g sz l.length e (row c l)) id id := by
 unfold vH; rw [ho]; exact ⟨fun _ => ⟨rfl, rfl⟩, rfl, .inl rfl, rfl, fun i _ => mJ (kE oP.pure i)⟩
theorem odx {α : Type} {c : α → List PV} [oP c] {id g sz n n' : Nat} {e : TypeId} {l : List α} (ho : h[id]? = some (aj.row g sz n e (row c l))) (hn : n' = n) : vH h η k m (.row g sz n' e (row c l)) id id := by
 unfold vH; rw [ho]; exact ⟨fun _ => ⟨rfl, rfl⟩, rfl, .inl hn, rfl, fun i _ => mJ (kE oP.pure i)⟩
theorem ob {id g sz : Nat} {e : TypeId} {a b : List PV} (ho : h[id]? = some (aj.row g sz 1 e (fun _ => a))) (F : wU h η k a b) : vH h η k m (.row g sz 1 e (fun _ => b)) id id := by
 unfold vH; rw [ho]; exact ⟨fun _ => ⟨rfl, rfl⟩, rfl, .inl rfl, rfl, fun i _ => F⟩
theorem nw {α : Type} {c : α → List PV} [oP c] {i id g g' sz : Nat} {e : TypeId} {l : List α} (hi : Nat.ble m i = true := by rfl) (ho : h[id]? = some (aj.row g sz l.length e (row c l)) := by rfl) : vH h η k m (.row g' sz l.length e (row c l)) i id := by
 unfold vH; rw [ho]; exact ⟨fun h0 => absurd h0 (Nat.not_lt.2 (aes hi)), rfl, .inl rfl, rfl, fun i _ => mJ (kE oP.pure i)⟩
theorem P5 {α : Type} {c : α → List PV} [oP c] {i id g g' sz n n' : Nat} {e : TypeId} {l : List α} (ho : h[id]? = some (aj.row g sz n e (row c l))) (hn : n' = n) (hi : Nat.ble m i = true := by rfl) : vH h η k m (.row g' sz n' e (row c l)) i id := by
 unfold vH; rw [ho]; exact ⟨fun h0 => absurd h0 (Nat.not_lt.2 (aes hi)), rfl, .inl hn, rfl, fun i _ => mJ (kE oP.pure i)⟩
theorem nb {i id g g' sz : Nat} {e : TypeId} {a b : List PV} (ho : h[id]? = some (aj.row g sz 1 e (fun _ => a))) (F : wU h η k a b) (hi : Nat.ble m i = true := by rfl) : vH h η k m (.row g' sz 1 e (fun _ => b)) i id := by
 unfold vH; rw [ho]; exact ⟨fun h0 => absurd h0 (Nat.not_lt.2 (aes hi)), rfl, .inl rfl, rfl, fun i _ => F⟩
theorem bf {i id g g' sz : Nat} {e : TypeId} {a : List PV} (ho : h[id]? = some (aj.row g sz 1 e (fun _ => a))) (hp : a.all bC = true := by rfl) (hi : Nat.ble m i = true := by rfl) : vH h η k m (.row g' sz 1 e (fun _ => a)) i id := nb ho (mJ hp) hi
theorem dd {i id : Nat} : vH h η k m .dead i id := by unfold vH; trivial
theorem gh {i id g' bV : Nat} {e' : TypeId} {f' : Nat → List PV} (hi : Nat.ble m i = true := by rfl) (ho : h[id]? = none := by rfl) : vH h η k m (.row g' bV 0 e' f') i id := by
 unfold vH; rw [ho]; exact ⟨aes hi, rfl⟩
theorem tk {env : Env} {σ : List (Nat × PV)} (k : List Nat) (he : KF h η k env σ) (hh : pO h η k m 0 η k) (hd : oc (nR η k) = true := by rfl) (hl : Nat.ble m k.length = true := by rfl) : tR m env h σ η := ⟨k, hd, aes hl, he, hh⟩
theorem ct {J : List (Nat × PV) → List aj → Prop} {env : Env} {σ : List (Nat × PV)} (hj : J σ η) (ht : tR m env h σ η) : wX m J env h := .mk σ η ht hj
theorem lg {body : (Env → List aj → Prop) → Env → List aj → Prop} {env : Env} {σ : List (Nat × PV)} (hj : az m body σ η) (ht : tR m env h σ η) : loopGo m body env h := .mk σ η ht hj
theorem le {body : (Env → List aj → Prop) → Env → List aj → Prop} {env : Env} {σ : List (Nat × PV)} (hj : az m body σ η) (ht : tR m env h σ η) : qw m body env h := .take σ η ht hj
theorem en {R : PV → List aj → Prop} {vs : List PV} {res : PV} (k : List Nat) (hR : R res η) (F : Fz h η k (oneOf vs) res) (hh : pO h η k m 0 η k) (hd : oc (nR η k) = true := by rfl) (hl : Nat.ble m k.length = true := by rfl) (hn : vs.all lF = true := by rfl) : Ends m R h vs := by
 exact .mk hn k res η hd (aes hl) F hh hR
theorem eB {a r : Bool} (hh : some a = some r) : Ends 0 (fun res h => res = .bool r ∧ h = []) h [.bool a] := .mk rfl [] _ [] rfl (aeb _) (.KC (aeq hh)) trivial ⟨rfl, rfl⟩
theorem eI {q : IntKind} {a r : Int} (hh : some a = some r) : Ends 0 (fun res h => res = .int q r ∧ h = []) h [.int q a] := .mk rfl [] _ [] rfl (aeb _) (.int_eq (aeq hh)) trivial ⟨rfl, rfl⟩
theorem eS {a r : List UInt8} (hh : some a = some r) : Ends 0 (fun res h => res = .str r ∧ h = []) h [.str a] := .mk rfl [] _ [] rfl (aeb _) (.Ox (aeq hh)) trivial ⟨rfl, rfl⟩
end
section
variable {α : Type} {x y r : α} {T F : Prop}
theorem sD {c : Prop} [Decidable c] (h : (if c then x else y) = r) (kT : decide c = true → x = r → T) (kF : decide c = false → y = r → F) : eH (decide c) T F := .mk (fun hb => kT hb (ZZ hb h)) (fun hb => kF hb (Z0 hb h))
theorem sE {β : Type} [BEq β] [LawfulBEq β] {a b : β} [Decidable (a = b)] (h : (if a = b then x else y) = r) (kT : (a == b) = true → x = r → T) (kF : (a == b) = false → y = r → F) : eH (a == b) T F := .mk (fun hb => kT hb (OA hb h)) (fun hb => kF hb (OB hb h))
theorem tc {β : Type} [BEq β] [LawfulBEq β] {a b : β} [Decidable (a = b)] (h : (if a = b then x else y) = r) (kT : (!(a == b)) = true → y = r → T) (kF : (!(a == b)) = false → x = r → F) : eH (!(a == b)) T F := .mk (fun hb => kT hb (OB (SI hb) h)) (fun hb => kF hb (OA (SH hb) h))
theorem sN {β : Type} [BEq β] [LawfulBEq β] {a b : β} [Decidable (a = b)] (h : (if a = b then x else y) = r) (kT : (a != b) = true → y = r → T) (kF : (a != b) = false → x = r → F) : eH (a != b) T F := .mk (fun hb => kT hb (Z1 hb h)) (fun hb => kF hb (Z2 hb h))
theorem sV {b : Bool} (h : (if b = true then x else y) = r) (kT : b = true → x = r → T) (kF : b = false → y = r → F) : eH b T F := .mk (fun hb => kT hb (SF hb h)) (fun hb => kF hb (SG hb h))
theorem j3 {b : Bool} (h : (if b = true then x else y) = r) (kT : (!b) = true → y = r → T) (kF : (!b) = false → x = r → F) : eH (!b) T F := .mk (fun hb => kT hb (SG (SI hb) h)) (fun hb => kF hb (SF (SH hb) h))
end
theorem eH.t {T F : Prop} (h : T) : eH true T F := OC h
theorem eH.f {T F : Prop} (h : F) : eH false T F := OD h
theorem eH.kt {b : Bool} {T F : Prop} (hb : b = true) (h : T) : eH b T F := LJ hb h
theorem eH.kf {b : Bool} {T F : Prop} (hb : b = false) (h : F) : eH b T F := LK hb h
theorem tS.d {m : Nat} {A B : XQ → Env → List aj → Prop} {Q : XQ} {env : Env} {h : List aj} (hd : A (XQ.then (B Q) Q) env h) : tS m A B Q env h := .direct hd
inductive Nz : PV → PV → Prop
 | same (a : PV) : Nz a a
 | nil (sz : Nat) (f : Nat → List PV) : Nz .aO (.fM sz 0 f)
def Z7 : List PV → List PV → Prop
 | [], [] => True
 | a :: l, b :: r => Nz a b ∧ Z7 l r
 | _, _ => False
inductive Z8 : PV → PV → Prop
 | same (a : PV) : Z8 a a
 | nil (sz : Nat) (f : Nat → List PV) : Z8 .aO (.fM sz 0 f)
 | agg {cs yc : List PV} (h : Z7 cs yc) : Z8 (.agg cs) (.agg yc)
def Rj : List PV → List PV → Prop
 | [], [] => True
 | a :: l, b :: r => Z8 a b ∧ Rj l r
 | _, _ => False
theorem Z7.get : ∀ {l r : List PV}, Z7 l r → r.length = l.length ∧ ∀ (j : Nat) (p : PV), r[j]? = some p → ∃ q : PV, l[j]? = some q ∧ Nz q p
 | [], [], _ => ⟨rfl, fun j p h => by simp at h⟩
 | a :: l, b :: r, h => by
  obtain ⟨h1, h2⟩ := Z7.get h.2
  refine ⟨by simp [h1], fun j p hj => ?_⟩
  cases j with
  | zero => simp at hj; subst hj; exact ⟨a, rfl, h.1⟩
  | succ j => obtain ⟨q, q1, q2⟩ := h2 j p agt; exact ⟨q, by simpa using q1, q2⟩
 | [], _ :: _, h => h.elim
 | _ :: _, [], h => h.elim
theorem Rj.get : ∀ {l r : List PV}, Rj l r → r.length = l.length ∧ ∀ (j : Nat) (p : PV), r[j]? = some p → ∃ q : PV, l[j]? = some q ∧ Z8 q p
 | [], [], _ => ⟨rfl, fun j p h => by simp at h⟩
 | a :: l, b :: r, h => by
  obtain ⟨h1, h2⟩ := Rj.get h.2
  refine ⟨by simp [h1], fun j p hj => ?_⟩
  cases j with
  | zero => simp at hj; subst hj; exact ⟨a, rfl, h.1⟩
  | succ j => obtain ⟨q, q1, q2⟩ := h2 j p agt; exact ⟨q, by simpa using q1, q2⟩
 | [], _ :: _, h => h.elim
 | _ :: _, [], h => h.elim
section
variable {P : Program} {f : FuncId} {args : List PV} {h : List aj} {K : PV → List aj → Prop} {r0 : PV}
theorem bO (hA : ACall P f args [] (fun res h => res = r0 ∧ h = [])) (k : K r0 h) (hp : args.all Dh = true := by rfl) (hr : ∀ n, pM n r0 = r0 := by intro _; rfl) : va P f args h K :=
 ⟨_, hA.Z3 h hp hr, by rintro _ _ ⟨rfl, rfl⟩; exact k⟩
theorem WZ {j7 : List PV} (hA : ACall P f j7 [] (fun res h => res = r0 ∧ h = [])) (hz : wU h [] [] args j7) (k : K r0 h) (hn : j7.all lF = true := by rfl) (hf : Hq r0 = true := by rfl) (hr : ∀ n, pM n r0 = r0 := by intro _; rfl) : va P f args h K :=
 ⟨_, hA.Z4 h hz hn hf hr, by rintro _ _ ⟨rfl, rfl⟩; exact k⟩
theorem shr {α : Type} {c : α → List PV} [oP c] (N g sz n : Nat) (e : TypeId) (l : List α) : fy N (.row g sz n e (row c l)) = .row g sz n e (row c l) := AM oP.pure N g sz n e l
theorem J6 {α : Type} {c : α → List PV} [oP c] (σ : Nat → Nat) (g sz n : Nat) (e : TypeId) (l : List α) : tQ σ (.row g sz n e (row c l)) = .row g sz n e (row c l) := kC oP.pure σ g sz n e l
theorem P6 {h0 : List aj} (hA : ACall P f args [] (fun res h => res = r0 ∧ h = h0)) (r1 : PV) (h1 : List aj) (k : K r1 h1) (e2 : h ++ h0.map (fy h.length) = h1 := by simp only [aeg, aem, shr]; rfl) (e1 : pM h.length r0 = r1 := by rfl) (hp : args.all Dh = true := by rfl) : va P f args h K :=
 ⟨_, hA.frame h hp, by rintro _ _ ⟨_, _, ⟨rfl, rfl⟩, rfl, rfl⟩; rw [e1, e2]; exact k⟩
theorem NW {j7 : List PV} {h0 : List aj} (hA : ACall P f j7 [] (fun res h => res = r0 ∧ h = h0)) (hz : wU h [] [] args j7) (r1 : PV) (h1 : List aj) (yB : ∀ o ∈ h0, wV o) (k : K r1 h1) (e2 : h ++ h0.map (fy h.length) = h1 := by simp only [aeg, aem, shr]; rfl) (e1 : pM h.length r0 = r1 := by rfl) (hn : j7.all lF = true := by rfl) (hf : Hq r0 = true := by rfl) : va P f args h K :=
 ⟨_, hA.SE h hz hn (by rintro _ _ ⟨rfl, rfl⟩; exact ⟨hf, yB⟩), by rintro _ _ ⟨_, _, ⟨rfl, rfl⟩, rfl, rfl⟩; rw [e1, e2]; exact k⟩
def SM (h : List aj) (σ : Nat → Nat) : List aj → List Nat → Prop
 | [], _ => True
 | o :: r, i :: is => h[i]? = some (tQ σ o) ∧ SM h σ r is
 | _ :: _, [] => False
theorem SM.get {h : List aj} {σ : Nat → Nat} : ∀ {hc : List aj} {is : List Nat}, SM h σ hc is → ∀ (j : Nat) (o : aj), hc[j]? = some o → ∃ i : Nat, is[j]? = some i ∧ h[i]? = some (tQ σ o)
 | [], _, _, j, o, hj => by simp at hj
 | a :: r, [], hh, _, _, _ => hh.elim
 | a :: r, i :: is, hh, 0, o, hj => by simp at hj; subst hj; exact ⟨i, rfl, hh.1⟩
 | a :: r, i :: is, hh, j + 1, o, hj => by
  obtain ⟨q, h1, h2⟩ := SM.get hh.2 j o agt
  exact ⟨q, by simpa using h1, h2⟩
theorem ov {α : Type} {c : α → List PV} [oP c] {σ : Nat → Nat} {g sz n : Nat} {e : TypeId} {l : List α} {x : Option aj} (hx : x = some (.row g sz n e (row c l)) := by rfl) : x = some (tQ σ (.row g sz n e (row c l))) := by rw [kC oP.pure]; exact hx
theorem ACall.OI {hc : List aj} {args nS : List PV} {R : PV → List aj → Prop} (hA : ACall P f args hc R) (is : List Nat) (h : List aj) (jd : SM h (ij is h.length) hc is) (hl : hc.length = is.length) (hd : is.Nodup) (bP : is.all (fun id => Nat.blt id h.length) = true)
  (rp : nS = args.map (Br (ij is h.length))) : ACall P f nS h (fun res h' => ∃ r0 h0, R r0 h0 ∧ res = JC (ij is h.length) r0 ∧ h' = mU h is h0) :=
 hA.over is h hl hd (fun id hid => aes (aei.1 bP id hid)) (fun j o hj => by
  obtain ⟨i, h1, h2⟩ := jd.get j o hj
  unfold ij; rw [h1]; exact h2) rp
theorem uZ {hc h0 : List aj} {args nS : List PV} (hA : ACall P f args hc (fun res h => res = r0 ∧ h = h0)) (is : List Nat) (jd : SM h (ij is h.length) hc is) (r1 : PV) (h1 : List aj) (k : K r1 h1) (e2 : mU h is h0 = h1 := by simp only [mU, fQ, aeg, aem, List.drop, aea, aec, J6]; rfl) (e1 : JC (ij is h.length) r0 = r1 := by rfl)
  (hl : hc.length = is.length := by rfl) (hd : is.Nodup := by decide) (bP : is.all (fun id => Nat.blt id h.length) = true := by rfl) (rp : nS = args.map (Br (ij is h.length)) := by rfl) : va P f nS h K :=
 ⟨_, hA.OI is h jd hl hd bP rp, by rintro _ _ ⟨_, _, ⟨rfl, rfl⟩, rfl, rfl⟩; rw [e1, e2]; exact k⟩
theorem ks {γ : Type} {h0 : γ → List aj} {args nS : List PV} {R0 : γ → PV} {hc : List aj} (hA : ACall P f args hc (fun res h => ∃ g, res = R0 g ∧ h = h0 g)) (is : List Nat) (jd : SM h (ij is h.length) hc is) (R1 : γ → PV) (H1 : γ → List aj) (k : ∀ g, K (R1 g) (H1 g)) (e2 : ∀ g, mU h is (h0 g) = H1 g := by intro g; simp only [mU, fQ, aeg, aem, List.drop, aea, aec, J6]; rfl) (e1 : ∀ g, JC (ij is h.length) (R0 g) = R1 g := by intro _; rfl)
  (hl : hc.length = is.length := by rfl) (hd : is.Nodup := by decide) (bP : is.all (fun id => Nat.blt id h.length) = true := by rfl) (rp : nS = args.map (Br (ij is h.length)) := by rfl) : va P f nS h K :=
 ⟨_, hA.OI is h jd hl hd bP rp, by rintro _ _ ⟨_, _, ⟨g, rfl, rfl⟩, rfl, rfl⟩; rw [e1, e2]; exact k g⟩
end
theorem si {α : Type} {a b : α} (h : some a = some b) : a = b := aeq h
theorem bk {α β : Type} {x : Option α} {f : α → Option β} {r : β} {G : Prop} (h : (x >>= f) = some r) (k : ∀ a, x = some a → f a = some r → G) : G := by
 obtain ⟨a, h1, h2⟩ := bind_some h
 exact k a h1 h2
theorem bd {α β : Type} {x : Option α} {f : α → Option β} {r : β} (h : (x >>= f) = some r) : ∃ a, x = some a ∧ f a = some r := bind_some h
structure DR {α : Type} (D : List PV → α → Prop) (n : Nat) (f : Nat → List PV) (l : List α) : Prop where
 len : l.length = n
 at_ : ∀ i (h : i < l.length), D (f i) l[i]
 z : ∀ i, n ≤ i → f i = []
inductive SN : PV → PV → Prop
 | p {a : PV} (h : bC a = true) : SN a a
 | o {a b : PV} (h : zy a b) : SN a b
def yd : List PV → List PV → Prop
 | [], [] => True
 | a :: l, b :: r => SN a b ∧ yd l r
 | _, _ => False
class KG {α : Type} (D : List PV → α → Prop) (c : outParam (α → List PV)) : Prop where
 ZY : ∀ cs x, D cs x → yd cs (c x)
def ud {α : Type} (c : α → List PV) : List PV → α → Prop := fun cs x => cs = c x
theorem yd.len : ∀ {l r : List PV}, yd l r → r.length = l.length
 | [], [], _ => rfl
 | a :: l, b :: r, h => congrArg (· + 1) (yd.len h.2)
 | [], _ :: _, h => h.elim
 | _ :: _, [], h => h.elim
theorem yd.get : ∀ {l r : List PV}, yd l r → ∀ {j : Nat} {a b : PV}, l[j]? = some a → r[j]? = some b → SN a b
 | a :: l, b :: r, h, 0, x, y, hx, hy => by simp at hx hy; subst hx hy; exact h.1
 | a :: l, b :: r, h, j + 1, x, y, hx, hy => yd.get h.2 (by simpa using hx) (by simpa using hy)
 | [], _, h, j, x, y, hx, hy => by simp at hx
 | _ :: _, [], h, _, _, _, _, _ => h.elim
theorem yd.pure : ∀ {l : List PV}, l.all bC = true → yd l l
 | [], _ => trivial
 | a :: l, h => by
  simp only [afc, an] at h
  exact ⟨.p h.1, yd.pure h.2⟩
theorem zy.isO {a b : PV} (h : zy a b) : dK a = true := by cases h; rfl
theorem zy.KH {a b : PV} (h : zy a b) : bC b = true := by cases h; rfl
theorem SN.po {a b : PV} (h : SN a b) : bC a = true ∨ dK a = true := by
 cases h with
 | p h => exact .inl h
 | o h => exact .inr h.isO
theorem SN.KH {a b : PV} (h : SN a b) : bC b = true := by
 cases h with
 | p h => exact h
 | o h => exact h.KH
theorem yd.po {l r : List PV} (h : yd l r) : ∀ c, c ∈ l → bC c = true ∨ dK c = true := fun c hc => by
 obtain ⟨j, hj, rfl⟩ := afi hc
 have hl := h.len
 exact (h.get (As hj) (As (show j < r.length by omega))).po
instance {α : Type} (c : α → List PV) [hp : oP c] : KG (ud c) c := ⟨fun cs x h => by
 have h : cs = c x := h
 subst h; exact yd.pure (hp.pure x)⟩
theorem JD {a : PV} (h : dK a = true) : bC a = false := by cases a <;> first | rfl | cases h
theorem Wd {σ : Nat → Nat} {a : PV} (h : bC a = true ∨ dK a = true) : pN σ a = a := by cases a <;> first | rfl | (rcases h with h | h <;> cases h)
theorem OJ {N : Nat} {a : PV} (h : bC a = true ∨ dK a = true) : mZ N a = a := by cases a <;> first | rfl | (rcases h with h | h <;> cases h)
theorem OK {g : PV → PV} : ∀ {l : List PV}, (∀ c, c ∈ l → g c = c) → l.map g = l
 | [], _ => rfl
 | a :: l, h => by simp only [aeg]; rw [h a agk, OK (fun c hc => h c (by simp [hc]))]
section
variable {α : Type} {D : List PV → α → Prop} {c : α → List PV} {n : Nat} {f : Nat → List PV} {l : List α}
theorem wY (hD : ∀ i (h : i < l.length), yd (f i) (c l[i])) (hl : l.length = n) (sz : Nat) (e : TypeId) (F : Nat → Prop) : zy (.aY sz n e f F) (sl sz c l) := by
 subst hl
 have at_ : ∀ i, i < l.length → yd (f i) (row c l i) := fun i hi => by rw [kX hi]; exact hD i hi
 refine .mk sz l.length e f (row c l) F (fun i hi => (at_ i hi).len) (fun i j pv fC hi h1 h2 hn => ?_) (fun i j pv fC hi h1 h2 hn => ?_) (fun i j fC hi h2 => ?_)
 ·cases (at_ i hi).get h1 h2 with
  | p _ => rfl
  | o h => rw [h.isO] at hn; cases hn
 ·cases (at_ i hi).get h1 h2 with
  | p h => rw [JD hn] at h; cases h
  | o h => exact h
 ·have hj : j < (f i).length := by rw [← (at_ i hi).len]; exact (so.1 h2).1
  exact ((at_ i hi).get (As hj) h2).KH
theorem DR.od [hc : KG D c] (d : DR D n f l) : ∀ i (h : i < l.length), yd (f i) (c l[i]) := fun i h => hc.ZY _ _ (d.at_ i h)
theorem DR.po [hc : KG D c] (d : DR D n f l) : ∀ i, i < n → ∀ x, x ∈ f i → bC x = true ∨ dK x = true := fun i hi => (d.od (c := c) i (by rw [d.len]; exact hi)).po
theorem DR.ren [hc : KG D c] (d : DR D n f l) {g : PV → PV} (hg : ∀ x, bC x = true ∨ dK x = true → g x = x) : (fun i => (f i).map g) = f := by
 funext i
 by_cases hi : i < n
 ·exact OK (fun x hx => hg x (d.po (c := c) i hi x hx))
 ·rw [d.z i agi]; rfl
theorem red [hc : KG D c] (d : DR D n f l) (σ : Nat → Nat) (g sz n' : Nat) (e : TypeId) : tQ σ (.row g sz n' e f) = .row g sz n' e f := by
 show aj.row g sz n' e (fun i => (f i).map (pN σ)) = _
 rw [d.ren (c := c) (fun x => Wd)]
theorem FP [hc : KG D c] (d : DR D n f l) (N g sz n' : Nat) (e : TypeId) : fy N (.row g sz n' e f) = .row g sz n' e f := by
 show aj.row g sz n' e (fun i => (f i).map (mZ N)) = _
 rw [d.ren (c := c) (fun x => OJ)]
theorem KT [hc : KG D c] (d : DR D n f l) {σ : Nat → Nat} {g sz n' : Nat} {e : TypeId} {x : Option aj} (hx : x = some (.row g sz n' e f) := by rfl) : x = some (tQ σ (.row g sz n' e f)) := by rw [red (c := c) d]; exact hx
theorem DR.self (d : DR D n f l) : DR D l.length f l := by have h := d.len; subst h; exact d
theorem DR.nil : DR D 0 (fun _ => []) [] := ⟨rfl, fun i h => absurd h (aeB _), fun _ _ => rfl⟩
theorem DR.rM {c : α → List PV} {l : List α} : DR (ud c) l.length (row c l) l := ⟨rfl, fun i h => kX h, fun i hi => by unfold row; simp [aee, aeC (show (l.map c).length ≤ i by simpa using hi)]⟩
theorem DR.Xv {c : α → List PV} (d : DR (ud c) n f l) : f = row c l := by
 funext i
 by_cases hi : i < l.length
 ·rw [kX hi]; exact d.at_ i hi
 ·rw [d.z i (by rw [← d.len]; omega), DR.rM.z i agi]
theorem aP {f : Nat → List PV} {i : Nat} {cs : List PV} : bw f i cs i = cs := by
 unfold bw
 rw [show Nat.beq i i = true from aeZ i]
 rfl
theorem mK {f : Nat → List PV} {i k : Nat} {cs : List PV} (h : k ≠ i) : bw f i cs k = f k := by
 unfold bw
 rw [show Nat.beq k i = false from Bool.eq_false_iff.2 (fun q => h (Is q))]
 rfl
theorem DR.set (d : DR D n f l) {i : Nat} (hi : i < l.length) {cs : List PV} {x : α} (hx : D cs x) : DR D n (bw f i cs) (l.set i x) := by
 refine ⟨by rw [afa]; exact d.len, fun k hk => ?_, fun k hk => ?_⟩
 ·rw [afa] at hk
  rw [List.getElem_set]
  by_cases h : i = k
  ·subst h; rw [if_pos rfl, aP]; exact hx
  ·rw [if_neg h, mK (Ne.symm h)]; exact d.at_ k hk
 ·have := d.len
  rw [mK agi]; exact d.z k hk
theorem DR.app (d : DR D n f l) {cs : List PV} {x : α} (hx : D cs x) : DR D (n + 1) (bw f n cs) (l ++ [x]) := by
 have hl := d.len
 refine ⟨by simp [hl], fun k hk => ?_, fun k hk => ?_⟩
 ·by_cases h : k = n
  ·subst h
   rw [aP, afh agi]
   simp only [hl, aeU, List.getElem_cons_zero]
   exact hx
  ·rw [mK h, List.getElem_append_left (by simp at hk; omega)]; exact d.at_ k (by simp at hk; omega)
 ·rw [mK agi]; exact d.z k agi
theorem DR.rep {x : α} {cs : List PV} (hx : D cs x) (n : Nat) : DR D n (fun i => bif Nat.blt i n then cs else []) (List.replicate n x) :=
 ⟨by simp, fun k hk => by
  simp only [List.length_replicate] at hk
  show D (bif Nat.blt k n then cs else []) _
  rw [JA hk, List.getElem_replicate]; exact hx, fun k hk => by
  show (bif Nat.blt k n then cs else []) = []
  rw [Oz agi]⟩
theorem DR.idx [Inhabited α] (d : DR D n f l) {i : Int} {x : α} (h : Go.Am.idx l i = some x) : D (f i.toNat) x := by
 have h1 := OE h
 obtain ⟨h2, h3⟩ := so.1 h1
 rw [← h3]; exact d.at_ _ h2
theorem DR.lt [Inhabited α] (d : DR D n f l) {i : Int} {x : α} (h : Go.Am.idx l i = some x) : i.toNat < n := by rw [← d.len]; exact gY h
theorem DR.bd [Inhabited α] (d : DR D n f l) {i : Int} {x : α} (h : Go.Am.idx l i = some x) : 0 ≤ i ∧ i < (n : Int) := by rw [← d.len]; exact aI h
variable {h η : List aj} {k : List Nat} {m : Nat}
theorem Z9 {a : PV} (hp : bC a = true ∨ dK a = true) : Fz h η k a a := by
 cases a <;> first | exact zW rfl | exact .aY _ _ _ _ _ | (rcases hp with hp | hp <;> cases hp)
theorem JE : ∀ {l : List PV}, (∀ c, c ∈ l → bC c = true ∨ dK c = true) → wU h η k l l
 | [], _ => trivial
 | a :: l, hp => ⟨Z9 (hp a agk), JE (fun c hc => hp c (by simp [hc]))⟩
theorem Fz.rd [hc : KG D c] {id g sz n0 n' : Nat} {e : TypeId} (d : DR D n f l) (hn : n' = l.length := by first | rfl | simp [*]) (ho : h[id]? = some (aj.row g sz n0 e f) := by rfl) (hk : id ∉ k := by first | decide | simp) : Fz h η k (.own id g 0 n') (sl sz c l) := by
 subst hn
 have at_ : ∀ i, i < l.length → yd (f i) (row c l i) := fun i hi => by rw [kX hi]; exact d.od (c := c) i hi
 refine .ZY id g sz n0 0 l.length e f (row c l) hk ho (fun i hi => by rw [No]; exact (at_ i hi).len) (fun i j fC hi h2 => ?_) (fun i j pv fC hi h1 h2 wq => ?_)
 ·have hj : j < (f i).length := by rw [← (at_ i hi).len]; exact (so.1 h2).1
  exact ((at_ i hi).get (As hj) h2).KH
 ·rw [No] at h1
  cases (at_ i hi).get h1 h2 with
  | p h => exact zW h
  | o h => exact absurd h wq
theorem sw [hc : KG D c] {id g sz n0 n' : Nat} {e : TypeId} (d : DR D n f l) (hn : n' = n0 := by first | rfl | simp [*]) (hle : n' = n := by first | rfl | simp [*]) (ho : h[id]? = some (aj.row g sz n0 e f) := by rfl) : vH h η k m (.row g sz n' e f) id id := by
 subst hn hle
 unfold vH; rw [ho]; exact ⟨fun _ => ⟨rfl, rfl⟩, rfl, .inl rfl, rfl, fun i hi => JE (d.po (c := c) i hi)⟩
theorem yu [hc : KG D c] {i id g g' sz n0 n' : Nat} {e : TypeId} (d : DR D n f l) (hn : n' = n0 := by first | rfl | simp [*]) (hle : n' = n := by first | rfl | simp [*]) (hi : Nat.ble m i = true := by rfl) (ho : h[id]? = some (aj.row g sz n0 e f) := by rfl) : vH h η k m (.row g' sz n' e f) i id := by
 subst hn hle
 unfold vH; rw [ho]; exact ⟨fun h0 => absurd h0 (Nat.not_lt.2 (aes hi)), rfl, .inl rfl, rfl, fun i hi => JE (d.po (c := c) i hi)⟩
theorem Fz.od {id id' g g' sz bV n0 n1 n2 n3 : Nat} {e e' : TypeId} {f f' : Nat → List PV} (h1 : n1 = n2 := by first | rfl | simp [*]) (h2 : n2 = n3 := by first | rfl | simp [*]) (hk : k[id']? = some id := by rfl) (ho : h[id]? = some (aj.row g sz n0 e f) := by rfl) (hη : η[id']? = some (aj.row g' bV n3 e' f') := by rfl) : Fz h η k (.own id g 0 n1) (.own id' g' 0 n2) := by
 subst h1 h2
 exact .own _ _ _ _ _ _ _ _ _ _ _ _ _ _ hk ho hη (Nat.le_of_eq (No _))
theorem RS (id : Nat) {g sz n : Nat} {e : TypeId} {f : Nat → List PV} {i bV n' : Nat} {e' : TypeId} {f' : Nat → List PV} {F : Nat → Prop} (j : Nat) (cs cs1 : List PV) (f1 : Nat → List PV) (hi : i < n) (hc : f i = cs) (h1 : f1 i = cs1) (hr : ∀ k, k ≠ i → f1 k = f k)
  (hj : cs[j]? = some (.aY bV n' e' f' F) := by rfl) (hs : cs1 = cs.set j (.own h.length 0 0 n') := by rfl) (ho : h[id]? = some (.row g sz n e f) := by rfl) {h2 : List aj} (h3 : h2 = h.set id (.row g sz n e f1) ++ [.row 0 bV n' e' f'] := by rfl) : Hs h h2 :=
 ⟨id, g, sz, n, e, f, i, j, bV, n', e', f', F, f1, ho, hi, by rw [hc]; exact hj, by rw [h1, hc, hs], fun k _ hk => hr k hk, h3⟩
theorem uG {id sub g sz n : Nat} {e : TypeId} {f : Nat → List PV} {g2 qy n2 : Nat} {e2 : TypeId} {f2 : Nat → List PV} {i : Nat} {j : Nat} {F : Nat → Prop} (cs cs1 : List PV) (f1 : Nat → List PV) (hi : i < n) (hc : f i = cs) (h1 : f1 i = cs1) (hr : ∀ k, k ≠ i → f1 k = f k)
  (hp : ∀ k, k < n2 → ∀ x, x ∈ f2 k → bC x = true ∨ dK x = true) (hj : cs[j]? = some (.own sub g2 0 n2) := by rfl) (hs : cs1 = cs.set j (.aY qy n2 e2 f2 F) := by rfl) (ho : h[id]? = some (.row g sz n e f) := by rfl) (Aw : h[sub]? = some (.row g2 qy n2 e2 f2) := by rfl) (rZ : id ≠ sub := by decide)
  {h2 : List aj} (h3 : h2 = (h.set id (.row g sz n e f1)).set sub .dead := by rfl) : Ht h id i j sub F h2 :=
 ⟨g, sz, n, e, f, g2, qy, n2, e2, f2, f1, ho, Aw, rZ, hi, by rw [hc]; exact hj, hp, by rw [h1, hc, hs], fun k _ hk => hr k hk, h3⟩
theorem Ag {c : α → List PV} [hp : oP c] {l : List α} {n : Nat} : ∀ k, k < n → ∀ x, x ∈ row c l k → bC x = true ∨ dK x = true := fun k _ x hx => .inl (aei.1 (kE hp.pure k) x hx)
theorem mT {f : Nat → List PV} {i off n : Nat} {c0 cv cs : List PV} (hc : nP (fN c0 off cv) cs) : ∀ j, j < n → nP (bw f i (fN c0 off cv) j) (bw f i cs j) := fun j _ => by
 by_cases h : j = i
 ·subst h; rw [aP, aP]; exact hc
 ·rw [mK h, mK h]; exact nP.refl _
theorem dZ {f : Nat → List PV} {i off n : Nat} {c0 cq cv cs : List PV} (hc : nP (fN c0 off cv) cs) : ∀ j, j < n → nP (bw (bw f i cq) i (fN c0 off cv) j) (bw f i cs j) := fun j _ => by
 by_cases h : j = i
 ·subst h; rw [aP, aP]; exact hc
 ·rw [mK h, mK h, mK h]; exact nP.refl _
theorem dR {f : Nat → List PV} {i : Nat} {cs cq : List PV} : ∀ k, k ≠ i → bw f i cs k = bw f i cq k := fun k h => by rw [mK h, mK h]
theorem DT {n' : Nat} {n : Nat} {z cs : List PV} (hn : n' = n) (hc : nP z cs) : ∀ i, i < n' → nP z ((fun i => bif Nat.blt i n then cs else []) i) := fun i hi => by
 subst hn
 show nP z (bif Nat.blt i n' then cs else [])
 rw [JA hi]; exact hc
end
section
variable {P : Program} {f : FuncId} {args : List PV} {h : List aj} {K : PV → List aj → Prop} {R : PV → List aj → Prop}
theorem zf {hc : List aj} {nS : List PV} (hA : ACall P f args hc R) (is : List Nat) (jd : SM h (ij is h.length) hc is)
  (k : ∀ r0 h0, R r0 h0 → ∃ r1 h1, JC (ij is h.length) r0 = r1 ∧ mU h is h0 = h1 ∧ K r1 h1)
  (rp : nS = args.map (Br (ij is h.length)) := by rfl) (hl : hc.length = is.length := by rfl) (hd : is.Nodup := by decide) (bP : is.all (fun id => Nat.blt id h.length) = true := by rfl) : va P f nS h K :=
 ⟨_, hA.OI is h jd hl hd bP rp, by
  rintro _ _ ⟨r0, h0, hR, rfl, rfl⟩
  obtain ⟨r1, h1, rfl, rfl, hk⟩ := k r0 h0 hR
  exact hk⟩
theorem xA (hA : ACall P f args [] R) (k : ∀ r0 h0, R r0 h0 → ∃ r1 h1, pM h.length r0 = r1 ∧ h ++ h0.map (fy h.length) = h1 ∧ K r1 h1) (hp : args.all Dh = true := by rfl) : va P f args h K :=
 ⟨_, hA.frame h hp, by
  rintro _ _ ⟨r0, h0, hR, rfl, rfl⟩
  obtain ⟨r1, h1, rfl, rfl, hk⟩ := k r0 h0 hR
  exact hk⟩
end
def mQ (cs : List PV) : Prop := ∀ c ∈ cs, (dK c = false → oq c = true) ∧ (dK c = true → OG (fun pv => oq pv = true) c)
class Mi {α : Type} (c : α → List PV) : Prop where
 fl : ∀ x, (c x).all oq = true
class Dfl {α : Type} (D : List PV → α → Prop) : Prop where
 fl : ∀ cs x, D cs x → mQ cs
instance : Mi cI := ⟨fun _ => rfl⟩
instance (k : IntKind) : Mi (Wb k) := ⟨fun _ => rfl⟩
instance : Mi cB := ⟨fun _ => rfl⟩
instance : Mi cT := ⟨fun _ => rfl⟩
instance : Mi cS := ⟨fun _ => rfl⟩
theorem Hu {a : PV} (h : oq a = true) : dK a = false := by cases a <;> first | rfl | cases h
theorem OL : mQ [] := fun c hc => absurd hc List.not_mem_nil
theorem sT {a : PV} {l : List PV} (t : mQ l) (h : oq a = true := by rfl) : mQ (a :: l) := fun c hc => by
 rcases aej.1 hc with rfl | hc
 ·exact ⟨fun _ => h, fun q => by rw [Hu h] at q; cases q⟩
 ·exact t c hc
theorem OM {l : List PV} (h : l.all oq = true) : mQ l := fun c hc => ⟨fun _ => aei.1 h c hc, fun q => by rw [Hu (aei.1 h c hc)] at q; cases q⟩
theorem aaa {sz n : Nat} {e : TypeId} {f : Nat → List PV} {F : Nat → Prop} (h : ∀ i, i < n → mQ (f i)) : OG (fun pv => oq pv = true) (.aY sz n e f F) :=
 .mk sz n e f F (fun i j pv hi hj hn => (h i hi pv (ael hj)).1 hn) (fun i j _ _ _ _ _ hi hj => (h i hi _ (ael hj)).2 rfl)
theorem Hv {sz n : Nat} {e : TypeId} {f : Nat → List PV} {F : Nat → Prop} {l : List PV} (h : ∀ i, i < n → mQ (f i)) (t : mQ l) : mQ (.aY sz n e f F :: l) := fun c hc => by
 rcases aej.1 hc with rfl | hc
 ·exact ⟨fun q => (by cases q), fun _ => aaa h⟩
 ·exact t c hc
theorem Bs {α : Type} {c : α → List PV} [h : Mi c] {l : List α} {n : Nat} : ∀ i, i < n → mQ (row c l i) := fun i _ => by
 by_cases hi : i < l.length
 ·rw [kX hi]; exact OM (h.fl _)
 ·rw [show row c l i = [] by unfold row; simp [aee, aeC (show (l.map c).length ≤ i by simpa using hi)]]; exact OL
instance {α : Type} (c : α → List PV) [h : Mi c] : Dfl (ud c) := ⟨fun cs x q => by
 have q : cs = c x := q
 subst q; exact OM (h.fl x)⟩
theorem Hw : ∀ {l : List PV}, l.all bC = true → noO l = true
 | [], _ => rfl
 | a :: l, h => by
  simp only [afc, an] at h
  have := Hw h.2
  cases a <;> first | exact this | (have h1 := h.1; cases h1)
theorem rT {α : Type} {c : α → List PV} [hp : oP c] {f : Nat → List PV} {off : Nat} {l : List α} (hs : u9 c f off l) : ∀ i, i < l.length → noO (f (off + i)) = true := fun i hi => by
 rw [hs i hi]; exact Hw (kE hp.pure i)
section
variable {α : Type} {D : List PV → α → Prop} {n : Nat} {f : Nat → List PV} {l q : List α} {x : α} {b : Nat}
theorem ON (h : kV b l [x] = some q) : l ++ [x] = q := (dw h).2
theorem DR.ln (d : DR D n f l) (h : kV b l [x] = some q) : q.length = n + 1 := by
 have h1 := ON h
 subst h1
 simp [d.len]
theorem wc [Inhabited α] {b : Nat} {i j : Int} (h : nv b i j = some l) {cs : List PV} (hx : D cs default) : DR D l.length (fun i => bif Nat.blt i l.length then cs else []) l := by
 have h1 := (dw h).2
 subst h1
 have := DR.rep hx i.toNat
 simpa using this
end
theorem rq {α : Type} {c : α → List PV} [hp : oP c] {l : List α} {n : Nat} (hl : l.length = n) (sz : Nat) (e : TypeId) (F : Nat → Prop) : zy (.aY sz n e (row c l) F) (sl sz c l) :=
 wY (fun i hi => by rw [kX hi]; exact yd.pure (hp.pure _)) hl sz e F
end Go.Am
namespace Go.Am
open Go Go.RowKit Go.Proofs
structure TParam where
 ao : ba
 vh : Bool
 deriving DecidableEq, Inhabited
abbrev TParam.lit (x : TParam) : List PV := [.str x.ao, .bool x.vh]
def TParam.cells (x : TParam) : List PV := x.lit
theorem TParam.au (x : TParam) : x.cells = x.lit := rfl
theorem TParam.bF (x : TParam) : x.cells.all bC = true := rfl
instance : oP TParam.cells := ⟨TParam.bF⟩
structure aR where
 aW : Int
 fA : Int
 fB : Int
 fS : ba
 fT : ba
 deriving DecidableEq, Inhabited
abbrev aR.lit (x : aR) : List PV := [.int .i64 x.aW, .int .i64 x.fA, .int .i64 x.fB, .str x.fS, .str x.fT]
def aR.cells (x : aR) : List PV := x.lit
theorem aR.au (x : aR) : x.cells = x.lit := rfl
theorem aR.bF (x : aR) : x.cells.all bC = true := rfl
instance : oP aR.cells := ⟨aR.bF⟩
structure aC where
 ao : ba
 ak : List TParam
 aE : List TParam
 ar : List ba
 dk : Bool
 aq : List aR
 deriving DecidableEq, Inhabited
abbrev aC.lit (x : aC) : List PV := [.str x.ao, sl 2 TParam.cells x.ak, sl 2 TParam.cells x.aE, sl 1 cS x.ar, .bool x.dk, sl 5 aR.cells x.aq]
def aC.cells (x : aC) : List PV := x.lit
theorem aC.au (x : aC) : x.cells = x.lit := rfl
theorem aC.bF (x : aC) : x.cells.all bC = true := rfl
instance : oP aC.cells := ⟨aC.bF⟩
structure bJ where
 cr : Bool
 bb : Int
 bm : ba
 deriving DecidableEq, Inhabited
abbrev bJ.lit (x : bJ) : List PV := [.bool x.cr, .int .i64 x.bb, .str x.bm]
def bJ.cells (x : bJ) : List PV := x.lit
theorem bJ.au (x : bJ) : x.cells = x.lit := rfl
theorem bJ.bF (x : bJ) : x.cells.all bC = true := rfl
instance : oP bJ.cells := ⟨bJ.bF⟩
mutual
inductive af where
 | mk (aJ : Int) (bb : Int) (bm : ba) (bs : Int) (ai : List ae)
inductive ae where
 | mk (aX : bJ) (aL : af)
end
def af.aJ : af → Int | .mk x _ _ _ _ => x
def af.bb : af → Int | .mk _ x _ _ _ => x
def af.bm : af → ba | .mk _ _ x _ _ => x
def af.bs : af → Int | .mk _ _ _ x _ => x
def af.ai : af → List ae | .mk _ _ _ _ x => x
@[simp] theorem af.mw (a0 : Int) (a1 : Int) (a2 : ba) (a3 : Int) (a4 : List ae) : (af.mk a0 a1 a2 a3 a4).aJ = a0 := rfl
@[simp] theorem af.uj (a0 : Int) (a1 : Int) (a2 : ba) (a3 : Int) (a4 : List ae) : (af.mk a0 a1 a2 a3 a4).bb = a1 := rfl
@[simp] theorem af.uk (a0 : Int) (a1 : Int) (a2 : ba) (a3 : Int) (a4 : List ae) : (af.mk a0 a1 a2 a3 a4).bm = a2 := rfl
@[simp] theorem af.nJ (a0 : Int) (a1 : Int) (a2 : ba) (a3 : Int) (a4 : List ae) : (af.mk a0 a1 a2 a3 a4).bs = a3 := rfl
@[simp] theorem af.gO (a0 : Int) (a1 : Int) (a2 : ba) (a3 : Int) (a4 : List ae) : (af.mk a0 a1 a2 a3 a4).ai = a4 := rfl
def ae.aX : ae → bJ | .mk x _ => x
def ae.aL : ae → af | .mk _ x => x
@[simp] theorem ae.QK (a0 : bJ) (a1 : af) : (ae.mk a0 a1).aX = a0 := rfl
@[simp] theorem ae.QL (a0 : bJ) (a1 : af) : (ae.mk a0 a1).aL = a1 := rfl
instance : Inhabited af := ⟨.mk 0 0 [] 0 []⟩
instance : Inhabited ae := ⟨.mk default default⟩
mutual
def af.cells : af → List PV | .mk a0 a1 a2 a3 a4 => [.int .i64 a0] ++ [.int .i64 a1] ++ [.str a2] ++ [.int .i64 a3] ++ [.fM 8 a4.length (fun i => (ae.Fc a4).getD i [])]
def ae.cells : ae → List PV | .mk a0 a1 => a0.lit ++ a1.cells
def ae.Fc : List ae → List (List PV) | [] => [] | x :: r => x.cells :: ae.Fc r
end
theorem ae.Bt : ∀ (l : List ae), ae.Fc l = l.map ae.cells
 | [] => rfl
 | a :: r => by unfold ae.Fc; rw [ae.Bt r]; rfl
abbrev af.lit (x : af) : List PV := [.int .i64 x.aJ, .int .i64 x.bb, .str x.bm, .int .i64 x.bs, sl 8 ae.cells x.ai]
abbrev ae.lit (x : ae) : List PV := [.bool x.aX.cr, .int .i64 x.aX.bb, .str x.aX.bm, .int .i64 x.aL.aJ, .int .i64 x.aL.bb, .str x.aL.bm, .int .i64 x.aL.bs, sl 8 ae.cells x.aL.ai]
theorem af.au (x : af) : x.cells = x.lit := by
 cases x with
 | mk a0 a1 a2 a3 a4 =>
  unfold af.cells
  rw [ae.Bt]
  rfl
theorem af.bF (x : af) : x.cells.all bC = true := by rw [af.au]; rfl
instance : oP af.cells := ⟨af.bF⟩
theorem ae.au (x : ae) : x.cells = x.lit := by
 cases x with
 | mk a0 a1 =>
  unfold ae.cells
  rw [af.au]
  rfl
theorem ae.bF (x : ae) : x.cells.all bC = true := by rw [ae.au]; rfl
instance : oP ae.cells := ⟨ae.bF⟩
structure aB where
 ao : ba
 bn : ba
 bc : Bool
 aH : af
 deriving Inhabited
abbrev aB.lit (x : aB) : List PV := [.str x.ao, .str x.bn, .bool x.bc, .int .i64 x.aH.aJ, .int .i64 x.aH.bb, .str x.aH.bm, .int .i64 x.aH.bs, sl 8 ae.cells x.aH.ai]
def aB.cells (x : aB) : List PV := x.lit
theorem aB.au (x : aB) : x.cells = x.lit := rfl
theorem aB.bF (x : aB) : x.cells.all bC = true := rfl
instance : oP aB.cells := ⟨aB.bF⟩
structure ax where
 ao : ba
 bn : ba
 fh : ba
 bc : Bool
 fZ : Bool
 deriving DecidableEq, Inhabited
abbrev ax.lit (x : ax) : List PV := [.str x.ao, .str x.bn, .str x.fh, .bool x.bc, .bool x.fZ]
def ax.cells (x : ax) : List PV := x.lit
theorem ax.au (x : ax) : x.cells = x.lit := rfl
theorem ax.bF (x : ax) : x.cells.all bC = true := rfl
instance : oP ax.cells := ⟨ax.bF⟩
structure aw where
 ao : ba
 bD : ba
 aA : List aB
 av : List ax
 deriving Inhabited
abbrev aw.lit (x : aw) : List PV := [.str x.ao, .str x.bD, sl 8 aB.cells x.aA, sl 5 ax.cells x.av]
def aw.cells (x : aw) : List PV := x.lit
theorem aw.au (x : aw) : x.cells = x.lit := rfl
theorem aw.bF (x : aw) : x.cells.all bC = true := rfl
instance : oP aw.cells := ⟨aw.bF⟩
structure aD where
 aG : List aC
 ay : List aw
 deriving Inhabited
abbrev aD.lit (x : aD) : List PV := [sl 6 aC.cells x.aG, sl 4 aw.cells x.ay]
def aD.cells (x : aD) : List PV := x.lit
theorem aD.au (x : aD) : x.cells = x.lit := rfl
theorem aD.bF (x : aD) : x.cells.all bC = true := rfl
instance : oP aD.cells := ⟨aD.bF⟩
structure aK where
 fB : List UInt8
 deriving DecidableEq, Inhabited
abbrev aK.lit (x : aK) : List PV := [sl 1 cB x.fB]
def aK.cells (x : aK) : List PV := x.lit
theorem aK.au (x : aK) : x.cells = x.lit := rfl
theorem aK.bF (x : aK) : x.cells.all bC = true := rfl
instance : oP aK.cells := ⟨aK.bF⟩
structure vb where
 fB : List UInt8
 PQ : Int
 deriving DecidableEq, Inhabited
abbrev vb.lit (x : vb) : List PV := [sl 1 cB x.fB, .int .i64 x.PQ]
def vb.cells (x : vb) : List PV := x.lit
theorem vb.au (x : vb) : x.cells = x.lit := rfl
theorem vb.bF (x : vb) : x.cells.all bC = true := rfl
instance : oP vb.cells := ⟨vb.bF⟩
structure fg where
 fB : List UInt8
 PQ : Int
 Jf : Bool
 deriving DecidableEq, Inhabited
abbrev fg.lit (x : fg) : List PV := [sl 1 cB x.fB, .int .i64 x.PQ, .bool x.Jf]
def fg.cells (x : fg) : List PV := x.lit
theorem fg.au (x : fg) : x.cells = x.lit := rfl
theorem fg.bF (x : fg) : x.cells.all bC = true := rfl
instance : oP fg.cells := ⟨fg.bF⟩
structure bx where
 fS : ba
 PQ : Int
 Jf : Bool
 deriving DecidableEq, Inhabited
abbrev bx.lit (x : bx) : List PV := [.str x.fS, .int .i64 x.PQ, .bool x.Jf]
def bx.cells (x : bx) : List PV := x.lit
theorem bx.au (x : bx) : x.cells = x.lit := rfl
theorem bx.bF (x : bx) : x.cells.all bC = true := rfl
instance : oP bx.cells := ⟨bx.bF⟩
instance : Mi bx.cells := ⟨fun _ => rfl⟩
instance : Mi TParam.cells := ⟨fun _ => rfl⟩
instance : Mi aR.cells := ⟨fun _ => rfl⟩
instance : Mi ax.cells := ⟨fun _ => rfl⟩
instance : Mi bJ.cells := ⟨fun _ => rfl⟩
inductive aC.D : List PV → aC → Prop
 | mk (x : aC) (n0 : Nat) (F0 : Nat → Prop) (sX : x.ak.length = n0) (n1 : Nat) (F1 : Nat → Prop) (Ed : x.aE.length = n1) (n2 : Nat) (F2 : Nat → Prop) (LM : x.ar.length = n2) (n3 : Nat) (F3 : Nat → Prop) (hl3 : x.aq.length = n3) : aC.D [.str x.ao, .aY 2 n0 61 (row TParam.cells x.ak) F0, .aY 2 n1 61 (row TParam.cells x.aE) F1, .aY 1 n2 9 (row cS x.ar) F2, .bool x.dk, .aY 5 n3 64 (row aR.cells x.aq) F3] x
theorem aC.vi {x : aC} {n0 : Nat} {F0 : Nat → Prop} {n1 : Nat} {F1 : Nat → Prop} {n2 : Nat} {F2 : Nat → Prop} {n3 : Nat} {F3 : Nat → Prop} (d0 : x.ak.length = n0) (d1 : x.aE.length = n1) (d2 : x.ar.length = n2) (d3 : x.aq.length = n3) : aC.D [.str x.ao, .aY 2 n0 61 (row TParam.cells x.ak) F0, .aY 2 n1 61 (row TParam.cells x.aE) F1, .aY 1 n2 9 (row cS x.ar) F2, .bool x.dk, .aY 5 n3 64 (row aR.cells x.aq) F3] x := .mk x _ _ d0 _ _ d1 _ _ d2 _ _ d3
theorem aC.ta {cs : List PV} {x : aC} (h : aC.D cs x) : ∃ (F0 : Nat → Prop), ∃ (F1 : Nat → Prop), ∃ (F2 : Nat → Prop), ∃ (F3 : Nat → Prop), cs = [.str x.ao, .aY 2 x.ak.length 61 (row TParam.cells x.ak) F0, .aY 2 x.aE.length 61 (row TParam.cells x.aE) F1, .aY 1 x.ar.length 9 (row cS x.ar) F2, .bool x.dk, .aY 5 x.aq.length 64 (row aR.cells x.aq) F3] := by
 cases h with
 | mk _ n0 F0 sX n1 F1 Ed n2 F2 LM n3 F3 hl3 => subst sX; subst Ed; subst LM; subst hl3; exact ⟨F0, F1, F2, F3, rfl⟩
theorem aC.wZ : ∀ cs x, aC.D cs x → yd cs x.cells := fun cs x h => aC.D.rec (motive := fun cs x _ => yd cs x.cells) (fun x n0 F0 sX n1 F1 Ed n2 F2 LM n3 F3 hl3 => by rw [aC.au]; exact ⟨.p rfl, .o (rq sX 2 61 F0), .o (rq Ed 2 61 F1), .o (rq LM 1 9 F2), .p rfl, .o (rq hl3 5 64 F3), trivial⟩) h
instance : KG aC.D aC.cells := ⟨aC.wZ⟩
theorem aC.sc : ∀ cs x, aC.D cs x → mQ cs := fun cs x h => aC.D.rec (motive := fun cs x _ => mQ cs) (fun x n0 F0 sX n1 F1 Ed n2 F2 LM n3 F3 hl3 => (sT (Hv Bs (Hv Bs (Hv Bs (sT (Hv Bs OL))))))) h
instance : Dfl aC.D := ⟨aC.sc⟩
inductive ae.D : List PV → ae → Prop
 | mk (x : ae) (n0 : Nat) (F0 : Nat → Prop) (sX : x.aL.ai.length = n0) (f0 : Nat → List PV) (h0 : ∀ i (hi : i < x.aL.ai.length), ae.D (f0 i) x.aL.ai[i]) (KI : ∀ i, n0 ≤ i → f0 i = []) : ae.D [.bool x.aX.cr, .int .i64 x.aX.bb, .str x.aX.bm, .int .i64 x.aL.aJ, .int .i64 x.aL.bb, .str x.aL.bm, .int .i64 x.aL.bs, .aY 8 n0 197 f0 F0] x
theorem ae.vi {x : ae} {n0 : Nat} {F0 : Nat → Prop} {f0 : Nat → List PV} (d0 : DR ae.D n0 f0 x.aL.ai) : ae.D [.bool x.aX.cr, .int .i64 x.aX.bb, .str x.aX.bm, .int .i64 x.aL.aJ, .int .i64 x.aL.bb, .str x.aL.bm, .int .i64 x.aL.bs, .aY 8 n0 197 f0 F0] x := .mk x _ _ d0.len _ d0.at_ d0.z
theorem ae.ta {cs : List PV} {x : ae} (h : ae.D cs x) : ∃ (F0 : Nat → Prop), ∃ f0 : Nat → List PV, cs = [.bool x.aX.cr, .int .i64 x.aX.bb, .str x.aX.bm, .int .i64 x.aL.aJ, .int .i64 x.aL.bb, .str x.aL.bm, .int .i64 x.aL.bs, .aY 8 x.aL.ai.length 197 f0 F0] ∧ DR ae.D x.aL.ai.length f0 x.aL.ai := by
 cases h with
 | mk _ n0 F0 sX f0 h0 KI => subst sX; exact ⟨F0, f0, rfl, ⟨rfl, h0, KI⟩⟩
theorem ae.wZ : ∀ cs x, ae.D cs x → yd cs x.cells := fun cs x h => ae.D.rec (motive := fun cs x _ => yd cs x.cells) (fun x n0 F0 sX f0 h0 KI ih0 => by rw [ae.au]; exact ⟨.p rfl, .p rfl, .p rfl, .p rfl, .p rfl, .p rfl, .p rfl, .o (wY ih0 sX 8 197 F0), trivial⟩) h
instance : KG ae.D ae.cells := ⟨ae.wZ⟩
theorem ae.sc : ∀ cs x, ae.D cs x → mQ cs := fun cs x h => ae.D.rec (motive := fun cs x _ => mQ cs) (fun x n0 F0 sX f0 h0 KI ih0 => (sT (sT (sT (sT (sT (sT (sT (Hv (fun i hi => ih0 i (Nat.lt_of_lt_of_eq hi sX.symm)) OL))))))))) h
instance : Dfl ae.D := ⟨ae.sc⟩
inductive aB.D : List PV → aB → Prop
 | mk (x : aB) (n0 : Nat) (F0 : Nat → Prop) (sX : x.aH.ai.length = n0) (f0 : Nat → List PV) (h0 : ∀ i (hi : i < x.aH.ai.length), ae.D (f0 i) x.aH.ai[i]) (KI : ∀ i, n0 ≤ i → f0 i = []) : aB.D [.str x.ao, .str x.bn, .bool x.bc, .int .i64 x.aH.aJ, .int .i64 x.aH.bb, .str x.aH.bm, .int .i64 x.aH.bs, .aY 8 n0 197 f0 F0] x
theorem aB.vi {x : aB} {n0 : Nat} {F0 : Nat → Prop} {f0 : Nat → List PV} (d0 : DR ae.D n0 f0 x.aH.ai) : aB.D [.str x.ao, .str x.bn, .bool x.bc, .int .i64 x.aH.aJ, .int .i64 x.aH.bb, .str x.aH.bm, .int .i64 x.aH.bs, .aY 8 n0 197 f0 F0] x := .mk x _ _ d0.len _ d0.at_ d0.z
theorem aB.ta {cs : List PV} {x : aB} (h : aB.D cs x) : ∃ (F0 : Nat → Prop), ∃ f0 : Nat → List PV, cs = [.str x.ao, .str x.bn, .bool x.bc, .int .i64 x.aH.aJ, .int .i64 x.aH.bb, .str x.aH.bm, .int .i64 x.aH.bs, .aY 8 x.aH.ai.length 197 f0 F0] ∧ DR ae.D x.aH.ai.length f0 x.aH.ai := by
 cases h with
 | mk _ n0 F0 sX f0 h0 KI => subst sX; exact ⟨F0, f0, rfl, ⟨rfl, h0, KI⟩⟩
theorem aB.wZ : ∀ cs x, aB.D cs x → yd cs x.cells := fun cs x h => aB.D.rec (motive := fun cs x _ => yd cs x.cells) (fun x n0 F0 sX f0 h0 KI => by rw [aB.au]; exact ⟨.p rfl, .p rfl, .p rfl, .p rfl, .p rfl, .p rfl, .p rfl, .o (wY (fun i hi => ae.wZ _ _ (h0 i hi)) sX 8 197 F0), trivial⟩) h
instance : KG aB.D aB.cells := ⟨aB.wZ⟩
theorem aB.sc : ∀ cs x, aB.D cs x → mQ cs := fun cs x h => aB.D.rec (motive := fun cs x _ => mQ cs) (fun x n0 F0 sX f0 h0 KI => (sT (sT (sT (sT (sT (sT (sT (Hv (fun i hi => ae.sc _ _ (h0 i (Nat.lt_of_lt_of_eq hi sX.symm))) OL))))))))) h
instance : Dfl aB.D := ⟨aB.sc⟩
inductive aw.D : List PV → aw → Prop
 | mk (x : aw) (n0 : Nat) (F0 : Nat → Prop) (sX : x.aA.length = n0) (f0 : Nat → List PV) (h0 : ∀ i (hi : i < x.aA.length), aB.D (f0 i) x.aA[i]) (KI : ∀ i, n0 ≤ i → f0 i = []) (n1 : Nat) (F1 : Nat → Prop) (Ed : x.av.length = n1) : aw.D [.str x.ao, .str x.bD, .aY 8 n0 99 f0 F0, .aY 5 n1 106 (row ax.cells x.av) F1] x
theorem aw.vi {x : aw} {n0 : Nat} {F0 : Nat → Prop} {f0 : Nat → List PV} {n1 : Nat} {F1 : Nat → Prop} (d0 : DR aB.D n0 f0 x.aA) (d1 : x.av.length = n1) : aw.D [.str x.ao, .str x.bD, .aY 8 n0 99 f0 F0, .aY 5 n1 106 (row ax.cells x.av) F1] x := .mk x _ _ d0.len _ d0.at_ d0.z _ _ d1
theorem aw.ta {cs : List PV} {x : aw} (h : aw.D cs x) : ∃ (F0 : Nat → Prop), ∃ f0 : Nat → List PV, ∃ (F1 : Nat → Prop), cs = [.str x.ao, .str x.bD, .aY 8 x.aA.length 99 f0 F0, .aY 5 x.av.length 106 (row ax.cells x.av) F1] ∧ DR aB.D x.aA.length f0 x.aA := by
 cases h with
 | mk _ n0 F0 sX f0 h0 KI n1 F1 Ed => subst sX; subst Ed; exact ⟨F0, f0, F1, rfl, ⟨rfl, h0, KI⟩⟩
theorem aw.wZ : ∀ cs x, aw.D cs x → yd cs x.cells := fun cs x h => aw.D.rec (motive := fun cs x _ => yd cs x.cells) (fun x n0 F0 sX f0 h0 KI n1 F1 Ed => by rw [aw.au]; exact ⟨.p rfl, .p rfl, .o (wY (fun i hi => aB.wZ _ _ (h0 i hi)) sX 8 99 F0), .o (rq Ed 5 106 F1), trivial⟩) h
instance : KG aw.D aw.cells := ⟨aw.wZ⟩
theorem aw.sc : ∀ cs x, aw.D cs x → mQ cs := fun cs x h => aw.D.rec (motive := fun cs x _ => mQ cs) (fun x n0 F0 sX f0 h0 KI n1 F1 Ed => (sT (sT (Hv (fun i hi => aB.sc _ _ (h0 i (Nat.lt_of_lt_of_eq hi sX.symm))) (Hv Bs OL))))) h
instance : Dfl aw.D := ⟨aw.sc⟩
theorem TParam.nF (x y : TParam) : ((x.ao == y.ao) && ((x.vh == y.vh) && true)) = decide (x = y) := by
 rw [aeF]
 simp only [an, beq_iff_eq, Bool.and_true, decide_eq_true_eq]
 constructor
 ·intro h
  cases x; cases y
  simp only [TParam.mk.injEq]
  simpa using h
 ·rintro rfl
  simp
theorem aR.nF (x y : aR) : ((x.aW == y.aW) && ((x.fA == y.fA) && ((x.fB == y.fB) && ((x.fS == y.fS) && ((x.fT == y.fT) && true))))) = decide (x = y) := by
 rw [aeF]
 simp only [an, beq_iff_eq, Bool.and_true, decide_eq_true_eq]
 constructor
 ·intro h
  cases x; cases y
  simp only [aR.mk.injEq]
  simpa using h
 ·rintro rfl
  simp
theorem ax.nF (x y : ax) : ((x.ao == y.ao) && ((x.bn == y.bn) && ((x.fh == y.fh) && ((x.bc == y.bc) && ((x.fZ == y.fZ) && true))))) = decide (x = y) := by
 rw [aeF]
 simp only [an, beq_iff_eq, Bool.and_true, decide_eq_true_eq]
 constructor
 ·intro h
  cases x; cases y
  simp only [ax.mk.injEq]
  simpa using h
 ·rintro rfl
  simp
theorem bx.nF (x y : bx) : ((x.fS == y.fS) && ((x.PQ == y.PQ) && ((x.Jf == y.Jf) && true))) = decide (x = y) := by
 rw [aeF]
 simp only [an, beq_iff_eq, Bool.and_true, decide_eq_true_eq]
 constructor
 ·intro h
  cases x; cases y
  simp only [bx.mk.injEq]
  simpa using h
 ·rintro rfl
  simp
theorem bJ.nF (x y : bJ) : ((x.cr == y.cr) && ((x.bb == y.bb) && ((x.bm == y.bm) && true))) = decide (x = y) := by
 rw [aeF]
 simp only [an, beq_iff_eq, Bool.and_true, decide_eq_true_eq]
 constructor
 ·intro h
  cases x; cases y
  simp only [bJ.mk.injEq]
  simpa using h
 ·rintro rfl
  simp
def vr : oO := u6 [(3, .int .i64),
 (4, .bool),
 (5, .int .u8),
 (9, .str),
 (22, .slice 89 6 120 [.str [], .aO, .aO, .aO, .bool false, .aO]),
 (23, .slice 94 4 80 [.str [], .str [], .aO, .aO]),
 (25, .struct 2 [(0, 1, false), (1, 1, false)] [.aO, .aO]),
 (27, .slice 5 1 1 [.int .u8 0]),
 (30, .slice 57 6 120 [.str [], .aO, .aO, .aO, .bool false, .aO]),
 (31, .slice 68 4 80 [.str [], .str [], .aO, .aO]),
 (33, .struct 2 [(0, 1, false), (1, 1, false)] [.aO, .aO]),
 (51, .struct 1 [(0, 1, false)] [.aO]),
 (53, .slice 61 2 24 [.str [], .bool false]),
 (54, .slice 9 1 16 [.str []]),
 (55, .slice 64 5 56 [.int .i64 0, .int .i64 0, .int .i64 0, .str [], .str []]),
 (57, .struct 6 [(0, 1, false), (1, 1, false), (2, 1, false), (3, 1, false), (4, 1, false), (5, 1, false)] [.str [], .aO, .aO, .aO, .bool false, .aO]),
 (59, .slice 53 1 24 [.aO]),
 (61, .struct 2 [(0, 1, false), (1, 1, false)] [.str [], .bool false]),
 (64, .struct 5 [(0, 1, false), (1, 1, false), (2, 1, false), (3, 1, false), (4, 1, false)] [.int .i64 0, .int .i64 0, .int .i64 0, .str [], .str []]),
 (65, .slice 99 8 104 [.str [], .str [], .bool false, .int .i64 0, .int .i64 0, .str [], .int .i64 0, .aO]),
 (66, .slice 106 5 56 [.str [], .str [], .str [], .bool false, .bool false]),
 (68, .struct 4 [(0, 1, false), (1, 1, false), (2, 1, false), (3, 1, false)] [.str [], .str [], .aO, .aO]),
 (75, .struct 2 [(0, 1, false), (1, 1, false)] [.aO, .int .i64 0]),
 (81, .struct 3 [(0, 1, false), (1, 1, false), (2, 1, false)] [.aO, .int .i64 0, .bool false]),
 (86, .slice 176 2 24 [.str [], .bool false]),
 (87, .slice 178 5 56 [.int .i64 0, .int .i64 0, .int .i64 0, .str [], .str []]),
 (89, .struct 6 [(0, 1, false), (1, 1, false), (2, 1, false), (3, 1, false), (4, 1, false), (5, 1, false)] [.str [], .aO, .aO, .aO, .bool false, .aO]),
 (91, .slice 184 8 104 [.str [], .str [], .bool false, .int .i64 0, .int .i64 0, .str [], .int .i64 0, .aO]),
 (92, .slice 186 5 56 [.str [], .str [], .str [], .bool false, .bool false]),
 (94, .struct 4 [(0, 1, false), (1, 1, false), (2, 1, false), (3, 1, false)] [.str [], .str [], .aO, .aO]),
 (95, .slice 197 8 96 [.bool false, .int .i64 0, .str [], .int .i64 0, .int .i64 0, .str [], .int .i64 0, .aO]),
 (97, .struct 5 [(0, 1, false), (1, 1, false), (2, 1, false), (3, 1, false), (4, 1, false)] [.int .i64 0, .int .i64 0, .str [], .int .i64 0, .aO]),
 (99, .struct 8 [(0, 1, false), (1, 1, false), (2, 1, false), (3, 5, true)] [.str [], .str [], .bool false, .int .i64 0, .int .i64 0, .str [], .int .i64 0, .aO]),
 (106, .struct 5 [(0, 1, false), (1, 1, false), (2, 1, false), (3, 1, false), (4, 1, false)] [.str [], .str [], .str [], .bool false, .bool false]),
 (112, .map 9 3 (.int .i64 0)),
 (114, .map 9 4 (.bool false)),
 (144, .slice 3 1 8 [.int .i64 0]),
 (172, .struct 3 [(0, 1, false), (1, 1, false), (2, 1, false)] [.str [], .int .i64 0, .bool false]),
 (176, .struct 2 [(0, 1, false), (1, 1, false)] [.str [], .bool false]),
 (178, .struct 5 [(0, 1, false), (1, 1, false), (2, 1, false), (3, 1, false), (4, 1, false)] [.int .i64 0, .int .i64 0, .int .i64 0, .str [], .str []]),
 (180, .slice 239 8 96 [.bool false, .int .i64 0, .str [], .int .i64 0, .int .i64 0, .str [], .int .i64 0, .aO]),
 (182, .struct 5 [(0, 1, false), (1, 1, false), (2, 1, false), (3, 1, false), (4, 1, false)] [.int .i64 0, .int .i64 0, .str [], .int .i64 0, .aO]),
 (184, .struct 8 [(0, 1, false), (1, 1, false), (2, 1, false), (3, 5, true)] [.str [], .str [], .bool false, .int .i64 0, .int .i64 0, .str [], .int .i64 0, .aO]),
 (186, .struct 5 [(0, 1, false), (1, 1, false), (2, 1, false), (3, 1, false), (4, 1, false)] [.str [], .str [], .str [], .bool false, .bool false]),
 (195, .struct 3 [(0, 1, false), (1, 1, false), (2, 1, false)] [.bool false, .int .i64 0, .str []]),
 (197, .struct 8 [(0, 3, true), (3, 5, true)] [.bool false, .int .i64 0, .str [], .int .i64 0, .int .i64 0, .str [], .int .i64 0, .aO]),
 (208, .map 195 4 (.bool false)),
 (237, .struct 3 [(0, 1, false), (1, 1, false), (2, 1, false)] [.bool false, .int .i64 0, .str []]),
 (239, .struct 8 [(0, 3, true), (3, 5, true)] [.bool false, .int .i64 0, .str [], .int .i64 0, .int .i64 0, .str [], .int .i64 0, .aO])]
theorem Rk : di Tryz.prog vr := ZW agr
theorem mixed : Tryz.prog.follows .mixedOrders = true := by kernel_rfl
theorem cP {f : FuncId} {fn : Func} {c : Code} {args : List PV} {h : List aj} {R : PV → List aj → Prop} (hf : Tryz.prog.funcs[f]? = some fn) (hv : vc Tryz.prog vr h.length c (aab vr fn.results.toList h.length R) (tT args) h) (hb : fn.body = some c := by rfl) (w8 : (fn.name == "runtime.NumGoroutine") = false := by kernel_rfl) (hn : Nat.ble args.length fn.ntmps = true := by rfl) (xI : codeOk fn.ntmps c = true := by kernel_rfl) : ACall Tryz.prog f args h R := ACall.aac Rk mixed hf hb w8 _ _ _ hn xI hv
theorem ACall.ext {P : Program} {f : FuncId} {args : List PV} {r : PV} (xI : aad P f)
  (H : ∀ (w : World) (vs : Array Value) (S : Nat → Prop), L7 S w → (∀ b, S b → b < w.heap.size) → vs.size = args.length → (∀ (j : Nat) (pv : PV), args[j]? = some pv → ∃ v, vs[j]? = some v ∧ aT S w pv v) →
   Calls P f vs w (fun e w' => ∃ v, e = .returned v ∧ (∀ μ h S w, bG μ h S w r v) ∧ Below w.heap.size w w'))
  (hp : args.all w9 = true) (h : List aj) : ACall P f args h (fun res h' => res = r ∧ h' = h) := by
 refine ⟨xI, fun w vs μ S hH hM iQ ha => (H w vs S hM.known hM.slt iQ (fun j pv hj => ?_)).mono ?_⟩
 ·obtain ⟨v, h1, h2⟩ := ha j pv hj
  have h3 := aei.1 hp pv (ael hj)
  cases pv <;> first | exact ⟨v, h1, h2⟩ | (simp [w9] at h3)
 ·rintro e w' ⟨v, rfl, hv, hb⟩
  have ag : cy w w' := ⟨hb.block, hb.size, hb.os, hb.tape, hb.output⟩
  exact ⟨v, r, h, μ, S, rfl, ⟨rfl, rfl⟩, hv _ _ _ _, hH.agree ag hM, hM.agree ag, Fr.xa ag⟩
theorem aae {vs : Array Value} {a : Value} (hs : vs.size = 1) (h0 : vs[0]? = some a) : vs = #[a] := by
 obtain ⟨l⟩ := vs
 rcases l with _ | ⟨b, _ | ⟨c, l⟩⟩ <;> simp at hs
 simp at h0; subst h0; rfl
theorem aaf {vs : Array Value} {a b : Value} (hs : vs.size = 2) (h0 : vs[0]? = some a) (h1 : vs[1]? = some b) : vs = #[a, b] := by
 obtain ⟨l⟩ := vs
 rcases l with _ | ⟨x, _ | ⟨y, _ | ⟨z, l⟩⟩⟩ <;> simp at hs
 simp at h0 h1; subst h0; subst h1; rfl
theorem aag {vs : Array Value} {a b c : Value} (hs : vs.size = 3) (h0 : vs[0]? = some a) (h1 : vs[1]? = some b) (h2 : vs[2]? = some c) : vs = #[a, b, c] := by
 obtain ⟨l⟩ := vs
 rcases l with _ | ⟨x, _ | ⟨y, _ | ⟨z, _ | ⟨u, l⟩⟩⟩⟩ <;> simp at hs
 simp at h0 h1 h2; subst h0; subst h1; subst h2; rfl
theorem JF {P : Program} {w : World} {n : String} {g : Nat} {cs : Array Value} {t : TypeId} {z : Nat × Nat} (hg : P.globalNamed n = some g) (h : w.heap[g]? = some (.cells cs t z)) : w.var? P n = some cs := by
 unfold World.var?
 rw [hg]
 simp [h]
theorem TE : Tryz.prog.globalNamed "internal/strconv.uint64pow10" = some 0 := by kernel_rfl
theorem TF : Tryz.prog.globalNamed "strconv.ErrSyntax" = some 1 := by kernel_rfl
theorem TG : Tryz.prog.globalNamed "strconv.ErrRange" = some 2 := by kernel_rfl
theorem OO : Lib.pow10Tab = Gc := by decide
theorem KJ {S : Nat → Prop} {w : World} (h : L7 S w) : Lib.TabIs Tryz.prog w "internal/strconv.uint64pow10" .u64 Lib.pow10Tab := by
 obtain ⟨_, t, z, hh⟩ := h.1 (0, _) (by simp [Ea]; rfl)
 unfold Lib.TabIs
 rw [JF TE hh, OO]
theorem Rl {S : Nat → Prop} {w : World} (h : L7 S w) : ∃ tp p, w.var? Tryz.prog "strconv.ErrSyntax" = some #[.iface tp p] := by
 obtain ⟨_, tp, p, t, z, hh⟩ := h.2.1 1 (by simp [wj])
 exact ⟨tp, p, JF TF hh⟩
theorem Rm {S : Nat → Prop} {w : World} (h : L7 S w) : ∃ tp p, w.var? Tryz.prog "strconv.ErrRange" = some #[.iface tp p] := by
 obtain ⟨_, tp, p, t, z, hh⟩ := h.2.1 2 (by simp [wj])
 exact ⟨tp, p, JF TG hh⟩
theorem Bu (w : World) (k : Nat) (os : Array Obj) : Below w.heap.size w (Sort.grow (w.drewN k) os) := by
 refine ⟨rfl, rfl, rfl, ?_, fun i hi => ?_⟩
 ·show w.heap.size ≤ (w.heap ++ os).size
  simp
 ·show (w.heap ++ os)[i]? = w.heap[i]?
  rw [aeL hi]
theorem Rn (n : Int) (h0 : -9223372036854775808 ≤ n) (h1 : n ≤ 9223372036854775807) (h : List aj) : ACall Tryz.prog 188 [.int .i64 n] h (fun res h' => res = .str (Lib.itoa n) ∧ h' = h) := by
 refine ACall.ext ⟨_, _, Tryz.func188, rfl, by kernel_rfl⟩ (fun w vs S ha hS iQ hj => ?_) rfl h
 obtain ⟨v, hv, hp⟩ := hj 0 _ rfl
 cases hp
 obtain rfl := aae iQ hv
 refine (Tryz.strconv_Itoa n h0 h1 w (KJ ha)).mono ?_
 rintro e w' ⟨rfl, k, os, rfl⟩
 exact ⟨_, rfl, fun _ _ _ _ => .str _, Bu _ _ _⟩
theorem Fe (s p : List UInt8) (h : List aj) : ACall Tryz.prog 113 [.str s, .str p] h (fun res h' => res = .bool (Lib.hasPrefix s p) ∧ h' = h) := by
 refine ACall.ext ⟨_, _, Tryz.func113, rfl, by kernel_rfl⟩ (fun w vs S ha hS iQ hj => ?_) rfl h
 obtain ⟨v, hv, hp⟩ := hj 0 _ rfl
 cases hp
 obtain ⟨v', hv', yP⟩ := hj 1 _ rfl
 cases yP
 obtain rfl := aaf iQ hv hv'
 refine (Tryz.strings_HasPrefix ⟨⟨s⟩⟩ ⟨⟨p⟩⟩ w).mono ?_
 rintro e w' ⟨rfl, rfl⟩
 exact ⟨_, rfl, fun _ _ _ _ => .bool _, Below.refl _ _⟩
def pw (s : List UInt8) (lo hi : Int) : Option Int :=
 if 20 < s.length then none else match Lib.atoiAll s with
  | .ok n => if Lib.itoa n = s ∧ lo ≤ n ∧ n ≤ hi then some n else none
  | _ => none
def pwR (o : Option Int) : PV := match o with | some n => .dG [.int .i64 n, .bool true] | none => .dG [.int .i64 0, .bool false]
def pwV (o : Option Int) : Value := match o with | some n => .tuple #[.int .i64 n, .bool true] | none => .tuple #[.int .i64 0, .bool false]
set_option maxRecDepth 100000 in
theorem xb (s : ByteArray) (lo hi : Int) (w : World) (S : Nat → Prop) (ha : L7 S w) (hS : ∀ b, S b → b < w.heap.size) :
  Calls Tryz.prog 190 #[.string s, .int .i64 lo, .int .i64 hi] w fun e w' => e = .returned (pwV (pw s.data.toList lo hi)) ∧ Below w.heap.size w w' := by
 have hlen : s.data.toList.length = s.size := rfl
 by_cases hl : 20 < s.size
 ·have e0 : pw s.data.toList lo hi = none := by unfold pw; rw [if_pos agi]
  rw [e0]
  go_enter Tryz.func190, Tryz.ntmps190
  go_wp2
  go_ret2
  exact ⟨rfl, Below.refl _ _⟩
 ·cases h : Lib.atoiAll s.data.toList with
  | range =>
   have e0 : pw s.data.toList lo hi = none := by unfold pw; rw [if_neg agi, h]
   rw [e0]
   obtain ⟨tp, p, hv⟩ := Rm ha
   go_enter Tryz.func190, Tryz.ntmps190
   go_wp2_with (go_at_call 199; refine (Tryz.strconv_Atoi_range_var s agi h tp p _ hv).mono ?_; rintro e w1 ⟨N, rfl, -, -, hb⟩)
   go_ret2
   exact ⟨rfl, hb⟩
  | ok n =>
   obtain ⟨b0, b1⟩ := Lib.atoiAll_bounds h
   have key : ∀ (r : Value) (w1 w2 : World), ((w1 = w ∨ ∃ t, w1 = Lib.bytesWorld w 5 t) → Below w.heap.size w w1) := fun r w1 w2 hb => by
    rcases hb with rfl | ⟨t, rfl⟩
    ·exact Below.refl _ _
    ·exact Lib.bytesWorld_below _ _ _
   go_enter Tryz.func190, Tryz.ntmps190
   go_wp2_with (go_at_call 199; refine (Tryz.strconv_Atoi_ok s agi n h _).mono ?_; rintro e w1 ⟨rfl, hb⟩)
   go_wp2_with (go_at_call 188; refine (Tryz.strconv_Itoa n b0 b1 _ (KJ (ha.AU (fun b nO => (key undef _ w hb).block b (hS b nO)) (fun _ hb => hb)))).mono ?_; rintro e w2 ⟨rfl, k, os, rfl⟩)
   all_goals go_ret2
   all_goals refine ⟨?_, (key undef _ w hb).trans ((Bu _ _ _).mono (key undef _ w hb).size)⟩
   all_goals
    have ht : s.toList = s.data.toList := ByteArray.toList_eq s
    have pe : pw s.data.toList lo hi = if Lib.itoa n = s.data.toList ∧ lo ≤ n ∧ n ≤ hi then some n else none := by
     unfold pw; rw [if_neg agi, h]
    rw [pe, ← ht]
    clear ht pe h
    split
    ·rename_i hc
     first
      | rfl
      | (exfalso; obtain ⟨c1, c2, c3⟩ := hc; first | omega | contradiction)
    ·rename_i hc
     first
      | rfl
      | (exfalso; apply hc; refine ⟨?_, ?_, ?_⟩ <;> first | assumption | omega)
  | _ =>
   have e0 : pw s.data.toList lo hi = none := by unfold pw; rw [if_neg agi, h]
   rw [e0]
   obtain ⟨tp, p, hv⟩ := Rl ha
   go_enter Tryz.func190, Tryz.ntmps190
   go_wp2_with (go_at_call 199; refine (Tryz.strconv_Atoi_syntax_var s agi h tp p _ hv).mono ?_; rintro e w1 ⟨N, rfl, -, -, hb⟩)
   go_ret2
   exact ⟨rfl, hb⟩
theorem Bv (s : List UInt8) (lo hi : Int) (h : List aj) : ACall Tryz.prog 190 [.str s, .int .i64 lo, .int .i64 hi] h (fun res h' => res = pwR (pw s lo hi) ∧ h' = h) := by
 refine ACall.ext ⟨_, _, Tryz.func190, rfl, by kernel_rfl⟩ (fun w vs S ha hS iQ hj => ?_) rfl h
 obtain ⟨v0, KY, hp0⟩ := hj 0 _ rfl
 cases hp0
 obtain ⟨v1, hv1, QU⟩ := hj 1 _ rfl
 cases QU
 obtain ⟨v2, jT, Og⟩ := hj 2 _ rfl
 cases Og
 obtain rfl := aag iQ KY hv1 jT
 refine (xb ⟨⟨s⟩⟩ lo hi w S ha hS).mono ?_
 rintro e w' ⟨rfl, hb⟩
 refine ⟨_, rfl, fun μ h S w => ?_, hb⟩
 show bG μ h S w (pwR (pw s lo hi)) (pwV (pw s lo hi))
 cases pw s lo hi with
 | some n =>
  refine ⟨_, rfl, rfl, fun j pv hj => ?_⟩
  match j with
  | 0 => cases hj; exact ⟨_, rfl, .int _ _⟩
  | 1 => cases hj; exact ⟨_, rfl, .bool _⟩
  | j + 2 => simp at hj
 | none =>
  refine ⟨_, rfl, rfl, fun j pv hj => ?_⟩
  match j with
  | 0 => cases hj; exact ⟨_, rfl, .int _ _⟩
  | 1 => cases hj; exact ⟨_, rfl, .bool _⟩
  | j + 2 => simp at hj
def Yb (s : ba) (lo hi : Int) : Option (Int × Bool) := match pw s lo hi with | some n => some (n, true) | none => some (0, false)
theorem abt {s : ba} {lo hi : Int} {r : Int × Bool} (h : Yb s lo hi = some r) : ACall Tryz.prog 190 [.str s, .int .i64 lo, .int .i64 hi] [] (fun res h => res = .dG [.int .i64 r.1, .bool r.2] ∧ h = []) := by
 refine (Bv s lo hi []).mono ?_
 rintro _ _ ⟨rfl, rfl⟩
 unfold Yb at h
 split at h
 ·rename_i n e; rw [e]; cases h; exact ⟨rfl, rfl⟩
 ·rename_i e; rw [e]; cases h; exact ⟨rfl, rfl⟩
def m73 (n : Int) : Option ba := if -9223372036854775808 ≤ n ∧ n ≤ 9223372036854775807 then some (Lib.itoa n) else none
theorem abS {n : Int} {r : ba} (h : m73 n = some r) : ACall Tryz.prog 188 [.int .i64 n] [] (fun res h => res = .str r ∧ h = []) := by
 obtain ⟨⟨h0, h1⟩, rfl⟩ := dw h
 exact Rn n h0 h1 []
def m66 (s p : ba) : Option Bool := some (Lib.hasPrefix s p)
theorem ac4 {s p : ba} {r : Bool} (h : m66 s p = some r) : ACall Tryz.prog 113 [.str s, .str p] [] (fun res h => res = .bool r ∧ h = []) := by
 cases h
 exact Fe s p []
set_option maxRecDepth 20000
def bH (S : Nat → Prop) (w : World) (pvs : List PV) (cs : List Value) : Prop := cs.length = pvs.length ∧ ∀ (j : Nat) (pv : PV), pvs[j]? = some pv → ∃ u, cs[j]? = some u ∧ aT S w pv u
theorem OP {α : Type} {l : List α} (h : l.length = 2) : ∃ a0 a1, l = [a0, a1] := by
 rcases l with _ | ⟨a0, _ | ⟨a1, _ | ⟨b, l⟩⟩⟩ <;> simp at h
 exact ⟨a0, a1, rfl⟩
theorem aah {α : Type} {l : List α} (h : l.length = 3) : ∃ a0 a1 a2, l = [a0, a1, a2] := by
 rcases l with _ | ⟨a0, _ | ⟨a1, _ | ⟨a2, _ | ⟨b, l⟩⟩⟩⟩ <;> simp at h
 exact ⟨a0, a1, a2, rfl⟩
theorem We {α : Type} {l : List α} (h : l.length = 4) : ∃ a0 a1 a2 a3, l = [a0, a1, a2, a3] := by
 rcases l with _ | ⟨a0, _ | ⟨a1, _ | ⟨a2, _ | ⟨a3, _ | ⟨b, l⟩⟩⟩⟩⟩ <;> simp at h
 exact ⟨a0, a1, a2, a3, rfl⟩
theorem LN {α : Type} {l : List α} (h : l.length = 5) : ∃ a0 a1 a2 a3 a4, l = [a0, a1, a2, a3, a4] := by
 rcases l with _ | ⟨a0, _ | ⟨a1, _ | ⟨a2, _ | ⟨a3, _ | ⟨a4, _ | ⟨b, l⟩⟩⟩⟩⟩⟩ <;> simp at h
 exact ⟨a0, a1, a2, a3, a4, rfl⟩
theorem aai {α : Type} {l : List α} (h : l.length = 6) : ∃ a0 a1 a2 a3 a4 a5, l = [a0, a1, a2, a3, a4, a5] := by
 rcases l with _ | ⟨a0, _ | ⟨a1, _ | ⟨a2, _ | ⟨a3, _ | ⟨a4, _ | ⟨a5, _ | ⟨b, l⟩⟩⟩⟩⟩⟩⟩ <;> simp at h
 exact ⟨a0, a1, a2, a3, a4, a5, rfl⟩
theorem len8 {α : Type} {l : List α} (h : l.length = 8) : ∃ a0 a1 a2 a3 a4 a5 a6 a7, l = [a0, a1, a2, a3, a4, a5, a6, a7] := by
 rcases l with _ | ⟨a0, _ | ⟨a1, _ | ⟨a2, _ | ⟨a3, _ | ⟨a4, _ | ⟨a5, _ | ⟨a6, _ | ⟨a7, _ | ⟨b, l⟩⟩⟩⟩⟩⟩⟩⟩⟩ <;> simp at h
 exact ⟨a0, a1, a2, a3, a4, a5, a6, a7, rfl⟩
section
variable {P : Program} {H : Type} {enc : TypeId × Value → H} {w : World} {spare : Nat → Bool} {held : Bool} {S : Nat → Prop}
theorem Ro {α : Type} (cells : α → List PV) (pX : α → Prop) (OQ : α) {ts te : TypeId} {sz : Nat} (hu : P.underlying ts = some (.slice te)) (hc : P.cellsOf te = sz) (Ct : 0 < sz) (hlen : ∀ a, (cells a).length = sz)
  (hS : ∀ b, b < w.heap.size → S b) {fuel : Nat} (Wf : ∀ n, n < fuel → ∀ (cs : List Value) (x : DataW H × List MemPlace), DataW.trod enc P w 0 spare held n te cs = some x → ∃ a, pX a ∧ bH S w (cells a) cs)
  {e : Value} {x : DataW H × List MemPlace} (h : DataW.trod enc P w 0 spare held fuel ts [e] = some x) :
  ∃ (n : Nat) (f : Nat → α), n ≤ 9223372036854775807 ∧ (∀ i, i < n → pX (f i)) ∧ aT S w (.fM sz n (fun i => cells (f i))) e := by
 rcases DataW.trod_slice hu h with ⟨e4, _⟩ | ⟨ad, len, cap, elems, rest, n', hn', e4, _, hb, QX, ig, hel, cO, _⟩
 ·simp at e4
  subst e4
  exact ⟨0, fun _ => OQ, by omega, fun i hi => absurd hi (aeB _), .p6 _ _ _ _⟩
 ·simp at e4
  subst e4
  rw [hc] at cO
  have each : ∀ i, ∃ a : α, i < len → pX a ∧ ∃ yc, w.cells? 0 (ad.add (i * sz)) sz = some yc ∧ bH S w (cells a) yc := fun i => by
   by_cases hi : i < len
   ·have hg := cO i hi
    rw [As agi] at hg
    obtain ⟨yc, q1, q2⟩ := Option.bind_eq_some_iff.1 hg
    obtain ⟨a, g1, g2⟩ := Wf n' agi _ _ q2
    exact ⟨a, fun _ => ⟨g1, yc, q1, g2⟩⟩
   ·exact ⟨OQ, fun h => absurd h hi⟩
  obtain ⟨kv, PU⟩ := Classical.axiomOfChoice each
  rcases aeM len with h00 | hposl
  ·subst h00
   exact ⟨0, fun _ => OQ, by omega, fun i hi => absurd hi (aeB _), .p6 _ _ _ _⟩
  ·refine ⟨len, kv, by simp [maxLen] at ig; omega, fun i hi => (PU i hi).1, ?_⟩
   obtain ⟨bl, off, spot⟩ := ad
   have bp : ∀ i, i < len → ∀ j pv, (cells (kv i))[j]? = some pv → ∃ u, w.cell? ((Addr.add ⟨bl, off, spot⟩ (i * sz)).add j) = some u ∧ aT S w pv u := fun i hi j pv hj => by
    obtain ⟨_, yc, q1, q2, q3⟩ := PU i hi
    obtain ⟨u, hu, hr⟩ := q3 j pv hj
    obtain ⟨_, _, r3⟩ := World.cells?_some q1
    have hj8 : j < sz := by have := (so.1 hj).1; rw [hlen] at this; exact this
    exact ⟨u, by rw [r3 j hj8, hu], hr⟩
   have h0 : ∃ pv, (cells (kv 0))[0]? = some pv := ⟨_, As (by rw [hlen]; exact Ct)⟩
   obtain ⟨pv0, adt⟩ := h0
   obtain ⟨u0, hu0, _⟩ := bp 0 hposl 0 _ adt
   have aaj : spot = none := by
    have := World.cell?_spot hu0
    simpa [Addr.add] using this
   subst aaj
   have nO : bl < w.heap.size := by
    have := World.block_lt_of_cell? _ _ hu0
    simpa [Addr.add_lit] using this
   refine .fM sz len _ bl off cap (fun i j => (w.cell? ⟨bl, off + i * sz + j, none⟩).getD undef) (hS _ nO) (fun i hi => hlen _) QX (fun i j pv hi hj => ?_) (fun i j pv hi hj => ?_)
   ·obtain ⟨u, hu, _⟩ := bp i hi j pv hj
    rw [Addr.add_lit, Addr.add_lit] at hu
    rw [hu]; rfl
   ·obtain ⟨u, hu, hr⟩ := bp i hi j pv hj
    rw [Addr.add_lit, Addr.add_lit] at hu
    rw [hu]; exact hr
end
theorem Rp {P : Program} {H : Type} {enc : TypeId × Value → H} {w : World} {spare : Nat → Bool} {held : Bool} {S : Nat → Prop} {t : TypeId} (hu : P.underlying t = some (.string)) (fuel : Nat) (cs : List Value) (x : DataW H × List MemPlace)
  (h : DataW.trod enc P w 0 spare held fuel t cs = some x) : ∃ l : List UInt8, l.length ≤ 9223372036854775807 ∧ bH S w [.str l] cs := by
 obtain ⟨s2, e2, _, hs⟩ := DataW.trod_string hu h
 subst e2
 obtain ⟨⟨l⟩⟩ := s2
 refine ⟨l, by have h' : l.length ≤ maxLen := hs; simpa [maxLen] using h', rfl, fun j pv hj => ?_⟩
 match j with
 | 0 => simp at hj; subst hj; exact ⟨_, rfl, .str _⟩
 | j + 1 => simp at hj
theorem aa4 {H : Type} {enc : TypeId × Value → H} {w : World} {spare : Nat → Bool} {held : Bool} {α : Type} (cells : α → List PV) (pX : α → Prop) {P : Program} {t : TypeId}
  (adu : ∀ (fuel : Nat) (cs : List Value) (x : DataW H × List MemPlace), DataW.trod enc P w 0 spare held fuel t cs = some x → ∃ a, pX a ∧ bH (fun b => b < w.heap.size) w (cells a) cs)
  {cs : Array Value} {d : DataW H} {p : List MemPlace} (h : DataW.Trod enc P w 0 spare held t (.agg cs) d p) : ∃ a, pX a ∧ jm (fun _ => none) [] (fun b => b < w.heap.size) w (.agg (cells a)) (.agg cs) := by
 obtain ⟨fuel, hf⟩ := h
 obtain ⟨a, ha, hl, hc⟩ := adu fuel _ _ hf
 refine ⟨a, ha, cs, rfl, by have h' : cs.toList.length = _ := hl; simpa using h', fun j pv hj => ?_⟩
 obtain ⟨u, hu, hr⟩ := hc j pv hj
 exact ⟨u, by have h' : cs.toList[j]? = some u := hu; simpa using h', bR.j5 hr⟩
theorem JG {S : Nat → Prop} {w : World} {sz n : Nat} {f g : Nat → List PV} {v : Value} (h : aT S w (.fM sz n f) v) (e : ∀ i, i < n → f i = g i) : aT S w (.fM sz n g) v := by
 cases h with
 | p6 => exact .p6 _ _ _ _
 | fM _ _ _ b off c vf hS hlen hc bp mX =>
  exact .fM sz n g b off c vf hS (fun i hi => by rw [← e i hi]; exact hlen i hi) hc (fun i j pv hi hj => bp i j pv hi (by rw [e i hi]; exact hj)) (fun i j pv hi hj => mX i j pv hi (by rw [e i hi]; exact hj))
theorem xc {P : Program} {H : Type} {enc : TypeId × Value → H} {w : World} {spare : Nat → Bool} {held : Bool} {S : Nat → Prop} {α : Type} (cells : α → List PV) (pX : α → Prop) (OQ : α) {ts te : TypeId} {sz : Nat} (hu : P.underlying ts = some (.slice te)) (hc : P.cellsOf te = sz) (Ct : 0 < sz) (hlen : ∀ a, (cells a).length = sz)
  (hS : ∀ b, b < w.heap.size → S b) {fuel : Nat} (Wf : ∀ n, n < fuel → ∀ (cs : List Value) (x : DataW H × List MemPlace), DataW.trod enc P w 0 spare held n te cs = some x → ∃ a, pX a ∧ bH S w (cells a) cs)
  {e : Value} {x : DataW H × List MemPlace} (h : DataW.trod enc P w 0 spare held fuel ts [e] = some x) :
  ∃ l : List α, l.length ≤ 9223372036854775807 ∧ (∀ a ∈ l, pX a) ∧ aT S w (sl sz cells l) e := by
 obtain ⟨n, f, h1, h2, h3⟩ := Ro cells pX OQ hu hc Ct hlen hS Wf h
 have hl : ((List.range n).map f).length = n := by simp
 have hi : ∀ i, i < n → ((List.range n).map f)[i]? = some (f i) := fun i hi => by simp [hi]
 refine ⟨(List.range n).map f, by rw [hl]; exact h1, fun a ha => ?_, ?_⟩
 ·obtain ⟨i, hi, rfl⟩ := aeo.1 ha
  exact h2 i (List.mem_range.1 hi)
 ·show aT S w (.fM sz ((List.range n).map f).length (row cells _)) e
  rw [hl]
  exact JG h3 (fun i bP => (jF (hi i bP)).symm)
theorem MM {P : Program} {f : FuncId} {args : List PV} {vs : Array Value} {w : World} (adv : L7 (fun b => b < w.heap.size) w) (hA : ACall P f args [] (fun res _ => res = .bool true)) (iQ : vs.size = args.length)
  (ha : ∀ (j : Nat) (pv : PV), args[j]? = some pv → ∃ v, vs[j]? = some v ∧ jm (fun _ => none) [] (fun b => b < w.heap.size) w pv v) :
  Calls P f vs w fun e w' => e = .returned (.bool true) ∧ Below w.heap.size w w' := by
 refine (hA.2 w vs (fun _ => none) (fun b => b < w.heap.size) (fun id g sz n e f hid => by simp at hid) ⟨fun b hb => absurd hb jQ, fun b hb => absurd hb jQ, fun b hb => hb, fun i j g sz n e f g' bV n' e' f' b o o' hi => by simp at hi, adv, fun b _ x y z hx => uu hx, fun b _ _ _ _ _ _ hx => absurd hx uu⟩ iQ ha).mono ?_
 rintro e w' ⟨v, res, h', μ', S', rfl, rfl, hv, hH, hM, hF⟩
 exact ⟨by rw [hv.mD], hF.os, hF.tape, hF.output, hF.size, fun b hb => hF.blocks b hb jQ⟩
section
variable {H : Type} {enc : TypeId × Value → H} {w : World} {spare : Nat → Bool} {held : Bool} {S : Nat → Prop}
theorem ct3 : Tryz.prog.cellsOf 3 = 1 := by kernel_rfl
theorem ct4 : Tryz.prog.cellsOf 4 = 1 := by kernel_rfl
theorem Rq : Tryz.prog.cellsOf 9 = 1 := by kernel_rfl
theorem adw : Tryz.prog.cellsOf 22 = 1 := by kernel_rfl
theorem adx : Tryz.prog.cellsOf 23 = 1 := by kernel_rfl
theorem ady : Tryz.prog.cellsOf 25 = 2 := by kernel_rfl
theorem adz : Tryz.prog.cellsOf 54 = 1 := by kernel_rfl
theorem adA : Tryz.prog.cellsOf 86 = 1 := by kernel_rfl
theorem adB : Tryz.prog.cellsOf 87 = 1 := by kernel_rfl
theorem aak : Tryz.prog.cellsOf 89 = 6 := by kernel_rfl
theorem adC : Tryz.prog.cellsOf 91 = 1 := by kernel_rfl
theorem adD : Tryz.prog.cellsOf 92 = 1 := by kernel_rfl
theorem aal : Tryz.prog.cellsOf 94 = 4 := by kernel_rfl
theorem OR : Tryz.prog.cellsOf 176 = 2 := by kernel_rfl
theorem SO : Tryz.prog.cellsOf 178 = 5 := by kernel_rfl
theorem aam : Tryz.prog.cellsOf 180 = 1 := by kernel_rfl
theorem OS : Tryz.prog.cellsOf 182 = 5 := by kernel_rfl
theorem SP : Tryz.prog.cellsOf 184 = 8 := by kernel_rfl
theorem SQ : Tryz.prog.cellsOf 186 = 5 := by kernel_rfl
theorem SR : Tryz.prog.cellsOf 237 = 3 := by kernel_rfl
theorem SS : Tryz.prog.cellsOf 239 = 8 := by kernel_rfl
structure TParam.Ok (a : TParam) : Prop where
 h0 : a.ao.length ≤ 9223372036854775807
theorem TParam.nT {w : World} {S : Nat → Prop} {cs : List Value} (h : ∃ a : TParam, a.Ok ∧ bH S w a.lit cs) : ∃ a : TParam, a.Ok ∧ bH S w a.cells cs := by
 obtain ⟨a, h1, h2⟩ := h
 exact ⟨a, h1, by rw [TParam.au]; exact h2⟩
theorem Bw (hS : ∀ b, b < w.heap.size → S b) (fuel : Nat) (cs : List Value) (x : DataW H × List MemPlace) (h : DataW.trod enc Tryz.prog w 0 spare held fuel 176 cs = some x) : ∃ a : TParam, a.Ok ∧ bH S w a.lit cs := by
 obtain ⟨xs, n, hn, _, hl, hlen, hf⟩ := DataW.trod_struct Tryz.underlying176 h
 have h0 := hf 0 _ rfl
 have h1 := hf 1 _ rfl
 rw [OR] at hl
 obtain ⟨z0, z1, rfl⟩ := OP hl
 obtain ⟨x0, x1, rfl⟩ := OP (show xs.length = 2 from hlen)
 simp [ct4, Rq] at h0 h1
 obtain ⟨s0, e0, _, q0⟩ := DataW.trod_string Tryz.underlying9 h0
 obtain rfl : z0 = _ := by simpa using e0
 obtain ⟨⟨v0⟩⟩ := s0
 replace q0 : v0.length ≤ 9223372036854775807 := by have h' : v0.length ≤ maxLen := q0; simpa [maxLen] using h'
 obtain ⟨v1, e1, _⟩ := DataW.trod_bool Tryz.underlying4 h1
 obtain rfl : z1 = _ := by simpa using e1
 refine ⟨.mk v0 v1, ⟨q0⟩, rfl, fun j pv hj => ?_⟩
 match j with
 | 0 => cases hj; exact ⟨_, rfl, .str _⟩
 | 1 => cases hj; exact ⟨_, rfl, .bool _⟩
 | j + 2 => simp [TParam.lit, sl] at hj
structure aR.Ok (a : aR) : Prop where
 h0 : a.fS.length ≤ 9223372036854775807
 h1 : a.fT.length ≤ 9223372036854775807
theorem aR.nT {w : World} {S : Nat → Prop} {cs : List Value} (h : ∃ a : aR, a.Ok ∧ bH S w a.lit cs) : ∃ a : aR, a.Ok ∧ bH S w a.cells cs := by
 obtain ⟨a, h1, h2⟩ := h
 exact ⟨a, h1, by rw [aR.au]; exact h2⟩
theorem OT (hS : ∀ b, b < w.heap.size → S b) (fuel : Nat) (cs : List Value) (x : DataW H × List MemPlace) (h : DataW.trod enc Tryz.prog w 0 spare held fuel 178 cs = some x) : ∃ a : aR, a.Ok ∧ bH S w a.lit cs := by
 obtain ⟨xs, n, hn, _, hl, hlen, hf⟩ := DataW.trod_struct Tryz.underlying178 h
 have h0 := hf 0 _ rfl
 have h1 := hf 1 _ rfl
 have h2 := hf 2 _ rfl
 have h3 := hf 3 _ rfl
 have h4 := hf 4 _ rfl
 rw [SO] at hl
 obtain ⟨z0, z1, z2, z3, z4, rfl⟩ := LN hl
 obtain ⟨x0, x1, x2, x3, x4, rfl⟩ := LN (show xs.length = 5 from hlen)
 simp [ct3, Rq] at h0 h1 h2 h3 h4
 obtain ⟨v0, e0, _⟩ := DataW.trod_int Tryz.underlying3 h0
 obtain rfl : z0 = _ := by simpa using e0
 obtain ⟨v1, e1, _⟩ := DataW.trod_int Tryz.underlying3 h1
 obtain rfl : z1 = _ := by simpa using e1
 obtain ⟨v2, e2, _⟩ := DataW.trod_int Tryz.underlying3 h2
 obtain rfl : z2 = _ := by simpa using e2
 obtain ⟨s3, e3, _, q3⟩ := DataW.trod_string Tryz.underlying9 h3
 obtain rfl : z3 = _ := by simpa using e3
 obtain ⟨⟨v3⟩⟩ := s3
 replace q3 : v3.length ≤ 9223372036854775807 := by have h' : v3.length ≤ maxLen := q3; simpa [maxLen] using h'
 obtain ⟨s4, e4, _, q4⟩ := DataW.trod_string Tryz.underlying9 h4
 obtain rfl : z4 = _ := by simpa using e4
 obtain ⟨⟨v4⟩⟩ := s4
 replace q4 : v4.length ≤ 9223372036854775807 := by have h' : v4.length ≤ maxLen := q4; simpa [maxLen] using h'
 refine ⟨.mk v0 v1 v2 v3 v4, ⟨q3, q4⟩, rfl, fun j pv hj => ?_⟩
 match j with
 | 0 => cases hj; exact ⟨_, rfl, .int _ _⟩
 | 1 => cases hj; exact ⟨_, rfl, .int _ _⟩
 | 2 => cases hj; exact ⟨_, rfl, .int _ _⟩
 | 3 => cases hj; exact ⟨_, rfl, .str _⟩
 | 4 => cases hj; exact ⟨_, rfl, .str _⟩
 | j + 5 => simp [aR.lit, sl] at hj
structure aC.Ok (a : aC) : Prop where
 h0 : a.ao.length ≤ 9223372036854775807
 h1 : a.ak.length ≤ 9223372036854775807
 h2 : ∀ x ∈ a.ak, TParam.Ok x
 h3 : a.aE.length ≤ 9223372036854775807
 h4 : ∀ x ∈ a.aE, TParam.Ok x
 h5 : a.ar.length ≤ 9223372036854775807
 h6 : ∀ x ∈ a.ar, x.length ≤ 9223372036854775807
 h7 : a.aq.length ≤ 9223372036854775807
 h8 : ∀ x ∈ a.aq, aR.Ok x
theorem aC.nT {w : World} {S : Nat → Prop} {cs : List Value} (h : ∃ a : aC, a.Ok ∧ bH S w a.lit cs) : ∃ a : aC, a.Ok ∧ bH S w a.cells cs := by
 obtain ⟨a, h1, h2⟩ := h
 exact ⟨a, h1, by rw [aC.au]; exact h2⟩
theorem LO (hS : ∀ b, b < w.heap.size → S b) (fuel : Nat) (cs : List Value) (x : DataW H × List MemPlace) (h : DataW.trod enc Tryz.prog w 0 spare held fuel 89 cs = some x) : ∃ a : aC, a.Ok ∧ bH S w a.lit cs := by
 obtain ⟨xs, n, hn, _, hl, hlen, hf⟩ := DataW.trod_struct Tryz.underlying89 h
 have h0 := hf 0 _ rfl
 have h1 := hf 1 _ rfl
 have h2 := hf 2 _ rfl
 have h3 := hf 3 _ rfl
 have h4 := hf 4 _ rfl
 have h5 := hf 5 _ rfl
 rw [aak] at hl
 obtain ⟨z0, z1, z2, z3, z4, z5, rfl⟩ := aai hl
 obtain ⟨x0, x1, x2, x3, x4, x5, rfl⟩ := aai (show xs.length = 6 from hlen)
 simp [ct4, Rq, adz, adA, adB] at h0 h1 h2 h3 h4 h5
 obtain ⟨s0, e0, _, q0⟩ := DataW.trod_string Tryz.underlying9 h0
 obtain rfl : z0 = _ := by simpa using e0
 obtain ⟨⟨v0⟩⟩ := s0
 replace q0 : v0.length ≤ 9223372036854775807 := by have h' : v0.length ≤ maxLen := q0; simpa [maxLen] using h'
 obtain ⟨v1, q1, g1, p1⟩ := xc TParam.cells TParam.Ok default Tryz.underlying86 OR agj (fun a => by rw [TParam.au]; rfl) hS (fun m hm cs x h => TParam.nT (Bw hS m cs x h)) h1
 obtain ⟨v2, q2, g2, p2⟩ := xc TParam.cells TParam.Ok default Tryz.underlying86 OR agj (fun a => by rw [TParam.au]; rfl) hS (fun m hm cs x h => TParam.nT (Bw hS m cs x h)) h2
 obtain ⟨v3, q3, g3, p3⟩ := xc cS (fun l => l.length ≤ 9223372036854775807) [] Tryz.underlying54 Rq agj (fun _ => rfl) hS (fun m _ cs x h => Rp Tryz.underlying9 m cs x h) h3
 obtain ⟨v4, e4, _⟩ := DataW.trod_bool Tryz.underlying4 h4
 obtain rfl : z4 = _ := by simpa using e4
 obtain ⟨v5, q5, g5, p5⟩ := xc aR.cells aR.Ok default Tryz.underlying87 SO agj (fun a => by rw [aR.au]; rfl) hS (fun m hm cs x h => aR.nT (OT hS m cs x h)) h5
 refine ⟨.mk v0 v1 v2 v3 v4 v5, ⟨q0, q1, g1, q2, g2, q3, g3, q5, g5⟩, rfl, fun j pv hj => ?_⟩
 match j with
 | 0 => cases hj; exact ⟨_, rfl, .str _⟩
 | 1 => cases hj; exact ⟨_, rfl, p1⟩
 | 2 => cases hj; exact ⟨_, rfl, p2⟩
 | 3 => cases hj; exact ⟨_, rfl, p3⟩
 | 4 => cases hj; exact ⟨_, rfl, .bool _⟩
 | 5 => cases hj; exact ⟨_, rfl, p5⟩
 | j + 6 => simp [aC.lit, sl] at hj
structure bJ.Ok (a : bJ) : Prop where
 h0 : a.bm.length ≤ 9223372036854775807
theorem bJ.nT {w : World} {S : Nat → Prop} {cs : List Value} (h : ∃ a : bJ, a.Ok ∧ bH S w a.lit cs) : ∃ a : bJ, a.Ok ∧ bH S w a.cells cs := by
 obtain ⟨a, h1, h2⟩ := h
 exact ⟨a, h1, by rw [bJ.au]; exact h2⟩
theorem OU (hS : ∀ b, b < w.heap.size → S b) (fuel : Nat) (cs : List Value) (x : DataW H × List MemPlace) (h : DataW.trod enc Tryz.prog w 0 spare held fuel 237 cs = some x) : ∃ a : bJ, a.Ok ∧ bH S w a.lit cs := by
 obtain ⟨xs, n, hn, _, hl, hlen, hf⟩ := DataW.trod_struct Tryz.underlying237 h
 have h0 := hf 0 _ rfl
 have h1 := hf 1 _ rfl
 have h2 := hf 2 _ rfl
 rw [SR] at hl
 obtain ⟨z0, z1, z2, rfl⟩ := aah hl
 obtain ⟨x0, x1, x2, rfl⟩ := aah (show xs.length = 3 from hlen)
 simp [ct3, ct4, Rq] at h0 h1 h2
 obtain ⟨v0, e0, _⟩ := DataW.trod_bool Tryz.underlying4 h0
 obtain rfl : z0 = _ := by simpa using e0
 obtain ⟨v1, e1, _⟩ := DataW.trod_int Tryz.underlying3 h1
 obtain rfl : z1 = _ := by simpa using e1
 obtain ⟨s2, e2, _, q2⟩ := DataW.trod_string Tryz.underlying9 h2
 obtain rfl : z2 = _ := by simpa using e2
 obtain ⟨⟨v2⟩⟩ := s2
 replace q2 : v2.length ≤ 9223372036854775807 := by have h' : v2.length ≤ maxLen := q2; simpa [maxLen] using h'
 refine ⟨.mk v0 v1 v2, ⟨q2⟩, rfl, fun j pv hj => ?_⟩
 match j with
 | 0 => cases hj; exact ⟨_, rfl, .bool _⟩
 | 1 => cases hj; exact ⟨_, rfl, .int _ _⟩
 | 2 => cases hj; exact ⟨_, rfl, .str _⟩
 | j + 3 => simp [bJ.lit, sl] at hj
mutual
inductive ae.Ok : ae → Prop where
 | mk (a0 : bJ) (a1 : af) (h0 : bJ.Ok a0) (h1 : af.Ok a1) : ae.Ok (.mk a0 a1)
inductive af.Ok : af → Prop where
 | mk (a0 : Int) (a1 : Int) (a2 : ba) (a3 : Int) (a4 : List ae) (h0 : a2.length ≤ 9223372036854775807) (h1 : a4.length ≤ 9223372036854775807) (h2 : ∀ x ∈ a4, ae.Ok x) : af.Ok (.mk a0 a1 a2 a3 a4)
end
theorem ae.Ok.inv {a : ae} (h : a.Ok) : (bJ.Ok a.aX) ∧ (af.Ok a.aL) := by
 cases h
 exact ⟨by assumption, by assumption⟩
theorem af.Ok.inv {a : af} (h : a.Ok) : (a.bm.length ≤ 9223372036854775807) ∧ (a.ai.length ≤ 9223372036854775807) ∧ (∀ x ∈ a.ai, ae.Ok x) := by
 cases h
 exact ⟨by assumption, by assumption, by assumption⟩
theorem ae.nT {w : World} {S : Nat → Prop} {cs : List Value} (h : ∃ a : ae, a.Ok ∧ bH S w a.lit cs) : ∃ a : ae, a.Ok ∧ bH S w a.cells cs := by
 obtain ⟨a, h1, h2⟩ := h
 exact ⟨a, h1, by rw [ae.au]; exact h2⟩
theorem af.nT {w : World} {S : Nat → Prop} {cs : List Value} (h : ∃ a : af, a.Ok ∧ bH S w a.lit cs) : ∃ a : af, a.Ok ∧ bH S w a.cells cs := by
 obtain ⟨a, h1, h2⟩ := h
 exact ⟨a, h1, by rw [af.au]; exact h2⟩
theorem Hx (hS : ∀ b, b < w.heap.size → S b) : ∀ fuel : Nat, (∀ (cs : List Value) (x : DataW H × List MemPlace), DataW.trod enc Tryz.prog w 0 spare held fuel 239 cs = some x → ∃ a : ae, a.Ok ∧ bH S w a.lit cs) ∧ (∀ (cs : List Value) (x : DataW H × List MemPlace), DataW.trod enc Tryz.prog w 0 spare held fuel 182 cs = some x → ∃ a : af, a.Ok ∧ bH S w a.lit cs) := by
 intro fuel
 induction fuel using Nat.strongRecOn with
 | _ fuel ih =>
  refine ⟨?_, ?_⟩
  ·intro cs x h
   obtain ⟨xs, n, hn, _, hl, hlen, hf⟩ := DataW.trod_struct Tryz.underlying239 h
   have h0 := hf 0 _ rfl
   have h1 := hf 1 _ rfl
   rw [SS] at hl
   obtain ⟨z0, z1, z2, z3, z4, z5, z6, z7, rfl⟩ := len8 hl
   obtain ⟨x0, x1, rfl⟩ := OP (show xs.length = 2 from hlen)
   simp [OS, SR] at h0 h1
   obtain ⟨v0, q0, p0⟩ := OU hS n _ _ h0
   obtain ⟨v1, q1, p1⟩ := (ih n agi).2 _ _ h1
   refine ⟨.mk v0 v1, .mk _ _ q0 q1, rfl, fun j pv hj => ?_⟩
   match j with
   | 0 => exact p0.2 0 pv hj
   | 1 => exact p0.2 1 pv hj
   | 2 => exact p0.2 2 pv hj
   | 3 => exact p1.2 0 pv hj
   | 4 => exact p1.2 1 pv hj
   | 5 => exact p1.2 2 pv hj
   | 6 => exact p1.2 3 pv hj
   | 7 => exact p1.2 4 pv hj
   | j + 8 => simp [ae.lit, sl] at hj
  ·intro cs x h
   obtain ⟨xs, n, hn, _, hl, hlen, hf⟩ := DataW.trod_struct Tryz.underlying182 h
   have h0 := hf 0 _ rfl
   have h1 := hf 1 _ rfl
   have h2 := hf 2 _ rfl
   have h3 := hf 3 _ rfl
   have h4 := hf 4 _ rfl
   rw [OS] at hl
   obtain ⟨z0, z1, z2, z3, z4, rfl⟩ := LN hl
   obtain ⟨x0, x1, x2, x3, x4, rfl⟩ := LN (show xs.length = 5 from hlen)
   simp [ct3, Rq, aam] at h0 h1 h2 h3 h4
   obtain ⟨v0, e0, _⟩ := DataW.trod_int Tryz.underlying3 h0
   obtain rfl : z0 = _ := by simpa using e0
   obtain ⟨v1, e1, _⟩ := DataW.trod_int Tryz.underlying3 h1
   obtain rfl : z1 = _ := by simpa using e1
   obtain ⟨s2, e2, _, q2⟩ := DataW.trod_string Tryz.underlying9 h2
   obtain rfl : z2 = _ := by simpa using e2
   obtain ⟨⟨v2⟩⟩ := s2
   replace q2 : v2.length ≤ 9223372036854775807 := by have h' : v2.length ≤ maxLen := q2; simpa [maxLen] using h'
   obtain ⟨v3, e3, _⟩ := DataW.trod_int Tryz.underlying3 h3
   obtain rfl : z3 = _ := by simpa using e3
   obtain ⟨v4, q4, g4, p4⟩ := xc ae.cells ae.Ok default Tryz.underlying180 SS agj (fun a => by rw [ae.au]; rfl) hS (fun m hm cs x h => ae.nT ((ih m agi).1 cs x h)) h4
   refine ⟨.mk v0 v1 v2 v3 v4, .mk _ _ _ _ _ q2 q4 g4, rfl, fun j pv hj => ?_⟩
   match j with
   | 0 => cases hj; exact ⟨_, rfl, .int _ _⟩
   | 1 => cases hj; exact ⟨_, rfl, .int _ _⟩
   | 2 => cases hj; exact ⟨_, rfl, .str _⟩
   | 3 => cases hj; exact ⟨_, rfl, .int _ _⟩
   | 4 => cases hj; exact ⟨_, rfl, p4⟩
   | j + 5 => simp [af.lit, sl] at hj
theorem JH (hS : ∀ b, b < w.heap.size → S b) (fuel : Nat) (cs : List Value) (x : DataW H × List MemPlace) (h : DataW.trod enc Tryz.prog w 0 spare held fuel 182 cs = some x) : ∃ a : af, a.Ok ∧ bH S w a.lit cs := (Hx hS fuel).2 cs x h
structure aB.Ok (a : aB) : Prop where
 h0 : a.ao.length ≤ 9223372036854775807
 h1 : a.bn.length ≤ 9223372036854775807
 h2 : af.Ok a.aH
theorem aB.nT {w : World} {S : Nat → Prop} {cs : List Value} (h : ∃ a : aB, a.Ok ∧ bH S w a.lit cs) : ∃ a : aB, a.Ok ∧ bH S w a.cells cs := by
 obtain ⟨a, h1, h2⟩ := h
 exact ⟨a, h1, by rw [aB.au]; exact h2⟩
theorem JI (hS : ∀ b, b < w.heap.size → S b) (fuel : Nat) (cs : List Value) (x : DataW H × List MemPlace) (h : DataW.trod enc Tryz.prog w 0 spare held fuel 184 cs = some x) : ∃ a : aB, a.Ok ∧ bH S w a.lit cs := by
 obtain ⟨xs, n, hn, _, hl, hlen, hf⟩ := DataW.trod_struct Tryz.underlying184 h
 have h0 := hf 0 _ rfl
 have h1 := hf 1 _ rfl
 have h2 := hf 2 _ rfl
 have h3 := hf 3 _ rfl
 rw [SP] at hl
 obtain ⟨z0, z1, z2, z3, z4, z5, z6, z7, rfl⟩ := len8 hl
 obtain ⟨x0, x1, x2, x3, rfl⟩ := We (show xs.length = 4 from hlen)
 simp [ct4, Rq, OS] at h0 h1 h2 h3
 obtain ⟨s0, e0, _, q0⟩ := DataW.trod_string Tryz.underlying9 h0
 obtain rfl : z0 = _ := by simpa using e0
 obtain ⟨⟨v0⟩⟩ := s0
 replace q0 : v0.length ≤ 9223372036854775807 := by have h' : v0.length ≤ maxLen := q0; simpa [maxLen] using h'
 obtain ⟨s1, e1, _, q1⟩ := DataW.trod_string Tryz.underlying9 h1
 obtain rfl : z1 = _ := by simpa using e1
 obtain ⟨⟨v1⟩⟩ := s1
 replace q1 : v1.length ≤ 9223372036854775807 := by have h' : v1.length ≤ maxLen := q1; simpa [maxLen] using h'
 obtain ⟨v2, e2, _⟩ := DataW.trod_bool Tryz.underlying4 h2
 obtain rfl : z2 = _ := by simpa using e2
 obtain ⟨v3, q3, p3⟩ := JH hS n _ _ h3
 refine ⟨.mk v0 v1 v2 v3, ⟨q0, q1, q3⟩, rfl, fun j pv hj => ?_⟩
 match j with
 | 0 => cases hj; exact ⟨_, rfl, .str _⟩
 | 1 => cases hj; exact ⟨_, rfl, .str _⟩
 | 2 => cases hj; exact ⟨_, rfl, .bool _⟩
 | 3 => exact p3.2 0 pv hj
 | 4 => exact p3.2 1 pv hj
 | 5 => exact p3.2 2 pv hj
 | 6 => exact p3.2 3 pv hj
 | 7 => exact p3.2 4 pv hj
 | j + 8 => simp [aB.lit, sl] at hj
structure ax.Ok (a : ax) : Prop where
 h0 : a.ao.length ≤ 9223372036854775807
 h1 : a.bn.length ≤ 9223372036854775807
 h2 : a.fh.length ≤ 9223372036854775807
theorem ax.nT {w : World} {S : Nat → Prop} {cs : List Value} (h : ∃ a : ax, a.Ok ∧ bH S w a.lit cs) : ∃ a : ax, a.Ok ∧ bH S w a.cells cs := by
 obtain ⟨a, h1, h2⟩ := h
 exact ⟨a, h1, by rw [ax.au]; exact h2⟩
theorem Hy (hS : ∀ b, b < w.heap.size → S b) (fuel : Nat) (cs : List Value) (x : DataW H × List MemPlace) (h : DataW.trod enc Tryz.prog w 0 spare held fuel 186 cs = some x) : ∃ a : ax, a.Ok ∧ bH S w a.lit cs := by
 obtain ⟨xs, n, hn, _, hl, hlen, hf⟩ := DataW.trod_struct Tryz.underlying186 h
 have h0 := hf 0 _ rfl
 have h1 := hf 1 _ rfl
 have h2 := hf 2 _ rfl
 have h3 := hf 3 _ rfl
 have h4 := hf 4 _ rfl
 rw [SQ] at hl
 obtain ⟨z0, z1, z2, z3, z4, rfl⟩ := LN hl
 obtain ⟨x0, x1, x2, x3, x4, rfl⟩ := LN (show xs.length = 5 from hlen)
 simp [ct4, Rq] at h0 h1 h2 h3 h4
 obtain ⟨s0, e0, _, q0⟩ := DataW.trod_string Tryz.underlying9 h0
 obtain rfl : z0 = _ := by simpa using e0
 obtain ⟨⟨v0⟩⟩ := s0
 replace q0 : v0.length ≤ 9223372036854775807 := by have h' : v0.length ≤ maxLen := q0; simpa [maxLen] using h'
 obtain ⟨s1, e1, _, q1⟩ := DataW.trod_string Tryz.underlying9 h1
 obtain rfl : z1 = _ := by simpa using e1
 obtain ⟨⟨v1⟩⟩ := s1
 replace q1 : v1.length ≤ 9223372036854775807 := by have h' : v1.length ≤ maxLen := q1; simpa [maxLen] using h'
 obtain ⟨s2, e2, _, q2⟩ := DataW.trod_string Tryz.underlying9 h2
 obtain rfl : z2 = _ := by simpa using e2
 obtain ⟨⟨v2⟩⟩ := s2
 replace q2 : v2.length ≤ 9223372036854775807 := by have h' : v2.length ≤ maxLen := q2; simpa [maxLen] using h'
 obtain ⟨v3, e3, _⟩ := DataW.trod_bool Tryz.underlying4 h3
 obtain rfl : z3 = _ := by simpa using e3
 obtain ⟨v4, e4, _⟩ := DataW.trod_bool Tryz.underlying4 h4
 obtain rfl : z4 = _ := by simpa using e4
 refine ⟨.mk v0 v1 v2 v3 v4, ⟨q0, q1, q2⟩, rfl, fun j pv hj => ?_⟩
 match j with
 | 0 => cases hj; exact ⟨_, rfl, .str _⟩
 | 1 => cases hj; exact ⟨_, rfl, .str _⟩
 | 2 => cases hj; exact ⟨_, rfl, .str _⟩
 | 3 => cases hj; exact ⟨_, rfl, .bool _⟩
 | 4 => cases hj; exact ⟨_, rfl, .bool _⟩
 | j + 5 => simp [ax.lit, sl] at hj
structure aw.Ok (a : aw) : Prop where
 h0 : a.ao.length ≤ 9223372036854775807
 h1 : a.bD.length ≤ 9223372036854775807
 h2 : a.aA.length ≤ 9223372036854775807
 h3 : ∀ x ∈ a.aA, aB.Ok x
 h4 : a.av.length ≤ 9223372036854775807
 h5 : ∀ x ∈ a.av, ax.Ok x
theorem aw.nT {w : World} {S : Nat → Prop} {cs : List Value} (h : ∃ a : aw, a.Ok ∧ bH S w a.lit cs) : ∃ a : aw, a.Ok ∧ bH S w a.cells cs := by
 obtain ⟨a, h1, h2⟩ := h
 exact ⟨a, h1, by rw [aw.au]; exact h2⟩
theorem JJ (hS : ∀ b, b < w.heap.size → S b) (fuel : Nat) (cs : List Value) (x : DataW H × List MemPlace) (h : DataW.trod enc Tryz.prog w 0 spare held fuel 94 cs = some x) : ∃ a : aw, a.Ok ∧ bH S w a.lit cs := by
 obtain ⟨xs, n, hn, _, hl, hlen, hf⟩ := DataW.trod_struct Tryz.underlying94 h
 have h0 := hf 0 _ rfl
 have h1 := hf 1 _ rfl
 have h2 := hf 2 _ rfl
 have h3 := hf 3 _ rfl
 rw [aal] at hl
 obtain ⟨z0, z1, z2, z3, rfl⟩ := We hl
 obtain ⟨x0, x1, x2, x3, rfl⟩ := We (show xs.length = 4 from hlen)
 simp [Rq, adC, adD] at h0 h1 h2 h3
 obtain ⟨s0, e0, _, q0⟩ := DataW.trod_string Tryz.underlying9 h0
 obtain rfl : z0 = _ := by simpa using e0
 obtain ⟨⟨v0⟩⟩ := s0
 replace q0 : v0.length ≤ 9223372036854775807 := by have h' : v0.length ≤ maxLen := q0; simpa [maxLen] using h'
 obtain ⟨s1, e1, _, q1⟩ := DataW.trod_string Tryz.underlying9 h1
 obtain rfl : z1 = _ := by simpa using e1
 obtain ⟨⟨v1⟩⟩ := s1
 replace q1 : v1.length ≤ 9223372036854775807 := by have h' : v1.length ≤ maxLen := q1; simpa [maxLen] using h'
 obtain ⟨v2, q2, g2, p2⟩ := xc aB.cells aB.Ok default Tryz.underlying91 SP agj (fun a => by rw [aB.au]; rfl) hS (fun m hm cs x h => aB.nT (JI hS m cs x h)) h2
 obtain ⟨v3, q3, g3, p3⟩ := xc ax.cells ax.Ok default Tryz.underlying92 SQ agj (fun a => by rw [ax.au]; rfl) hS (fun m hm cs x h => ax.nT (Hy hS m cs x h)) h3
 refine ⟨.mk v0 v1 v2 v3, ⟨q0, q1, q2, g2, q3, g3⟩, rfl, fun j pv hj => ?_⟩
 match j with
 | 0 => cases hj; exact ⟨_, rfl, .str _⟩
 | 1 => cases hj; exact ⟨_, rfl, .str _⟩
 | 2 => cases hj; exact ⟨_, rfl, p2⟩
 | 3 => cases hj; exact ⟨_, rfl, p3⟩
 | j + 4 => simp [aw.lit, sl] at hj
structure aD.Ok (a : aD) : Prop where
 h0 : a.aG.length ≤ 9223372036854775807
 h1 : ∀ x ∈ a.aG, aC.Ok x
 h2 : a.ay.length ≤ 9223372036854775807
 h3 : ∀ x ∈ a.ay, aw.Ok x
theorem aD.nT {w : World} {S : Nat → Prop} {cs : List Value} (h : ∃ a : aD, a.Ok ∧ bH S w a.lit cs) : ∃ a : aD, a.Ok ∧ bH S w a.cells cs := by
 obtain ⟨a, h1, h2⟩ := h
 exact ⟨a, h1, by rw [aD.au]; exact h2⟩
theorem Eb (hS : ∀ b, b < w.heap.size → S b) (fuel : Nat) (cs : List Value) (x : DataW H × List MemPlace) (h : DataW.trod enc Tryz.prog w 0 spare held fuel 25 cs = some x) : ∃ a : aD, a.Ok ∧ bH S w a.lit cs := by
 obtain ⟨xs, n, hn, _, hl, hlen, hf⟩ := DataW.trod_struct Tryz.underlying25 h
 have h0 := hf 0 _ rfl
 have h1 := hf 1 _ rfl
 rw [ady] at hl
 obtain ⟨z0, z1, rfl⟩ := OP hl
 obtain ⟨x0, x1, rfl⟩ := OP (show xs.length = 2 from hlen)
 simp [adw, adx] at h0 h1
 obtain ⟨v0, q0, g0, p0⟩ := xc aC.cells aC.Ok default Tryz.underlying22 aak agj (fun a => by rw [aC.au]; rfl) hS (fun m hm cs x h => aC.nT (LO hS m cs x h)) h0
 obtain ⟨v1, q1, g1, p1⟩ := xc aw.cells aw.Ok default Tryz.underlying23 aal agj (fun a => by rw [aw.au]; rfl) hS (fun m hm cs x h => aw.nT (JJ hS m cs x h)) h1
 refine ⟨.mk v0 v1, ⟨q0, g0, q1, g1⟩, rfl, fun j pv hj => ?_⟩
 match j with
 | 0 => cases hj; exact ⟨_, rfl, p0⟩
 | 1 => cases hj; exact ⟨_, rfl, p1⟩
 | j + 2 => simp [aD.lit, sl] at hj
end
end Go.Am
