/- The table of types, checked; the end of a law; small lemmas for the prover. -/
import Derived.Test.YtgkniabpdgaoiaaDoorBm13
set_option linter.unusedVariables false
set_option linter.unusedSimpArgs false
namespace Go.Am
open Go Go.RowKit
def look (l : List (Nat × TI)) (t : Nat) : TI := match l with
 | [] => .other
 | (k, ti) :: r => match Nat.beq t k with
  | true => ti
  | false => look r t
def mkTab (l : List (Nat × TI)) : Tab := ⟨look l⟩
def zeroOk : List Value → List PV → Bool
 | [], [] => true
 | .int k n :: r, .int k' n' :: r' => kindEq k k' && n == n' && zeroOk r r'
 | .bool b :: r, .bool b' :: r' => b == b' && zeroOk r r'
 | .string s :: r, .str s' :: r' => s.data.toList == s' && zeroOk r r'
 | .slice none 0 0 :: r, .nils :: r' => zeroOk r r'
 | _, _ => false
def sizeIs (P : Program) (t n : Nat) : Bool := match P.info? t with
 | some i => Nat.beq i.size n
 | none => false
def fieldsOk (P : Program) : List Field → List (Nat × Nat × Bool) → Bool
 | [], [] => true
 | f :: r, (off, size, ag) :: r' => Nat.beq f.offset off && sizeIs P f.type size && Nat.blt 0 size && (match P.underlying f.type with | some d => ag == aggD d | none => false) && fieldsOk P r r'
 | _, _ => false
def mapZero : Value → PV → Bool
 | .int k n, .int k' n' => kindEq k k' && n == n'
 | .bool b, .bool b' => b == b'
 | .string s, .str s' => s.data.toList == s'
 | _, _ => false
theorem mapZero_elim {v : Value} {z : PV} (h : mapZero v z = true) : SRep z v ∧ scalA z = true ∧ storable z = true := by
 unfold mapZero at h
 split at h
 ·simp only [Bool.and_eq_true, beq_iff_eq] at h
  obtain ⟨h1, rfl⟩ := h
  obtain rfl := kindEq_elim h1
  exact ⟨rfl, rfl, rfl⟩
 ·rw [beq_iff_eq] at h; subst h; exact ⟨rfl, rfl, rfl⟩
 ·rw [beq_iff_eq] at h; subst h; exact ⟨rfl, rfl, rfl⟩
 ·cases h
def tyOk0 (P : Program) (t : Nat) : TI → Bool
 | .int k => (match P.underlying t with | some (.int k') => kindEq k k' | _ => false) && sizeIs P t 1
 | .bool => (match P.underlying t with | some .bool => true | _ => false) && sizeIs P t 1
 | .str => (match P.underlying t with | some .string => true | _ => false) && sizeIs P t 1
 | .ptr e => (match P.underlying t with | some (.pointer e') => Nat.beq e e' | _ => false) && sizeIs P t 1
 | .slice e sz by' z => (match P.underlying t with | some (.slice e') => Nat.beq e e' | _ => false) && sizeIs P t 1 && Nat.blt 0 sz && Nat.blt 0 by' &&
   (match P.info? e with
    | some i => Nat.beq i.size sz && Nat.beq i.bytes by' && (match i.zero with | some zv => Nat.beq zv.cells.size sz && zeroOk zv.cells.toList z | none => false)
    | none => false)
 | .struct sz fl z => (!(flatZ z) || flatEq P t z) && (match P.underlying t with | some (.struct fs) => fieldsOk P fs.toList fl | _ => false) &&
   (match P.info? t with
    | some i => Nat.beq i.size sz && (match i.zero with | some zv => Nat.beq zv.cells.size sz && zeroOk zv.cells.toList z | none => false)
    | none => false)
 | .map k e z => (match P.underlying t with | some (.map k' e') => Nat.beq k k' && Nat.beq e e' | _ => false) && sizeIs P t 1 && (match P.info? e with
   | some i => (match i.zero with | some zv => mapZero zv z | none => false)
   | none => false)
 | .other => true
def zeroAt (P : Program) (t : Nat) (z : List PV) (n : Nat) : Bool := match P.info? t with
 | some i => match i.zero with
  | some zv => Nat.beq zv.cells.size n && Nat.beq z.length n && zeroOk zv.cells.toList z
  | none => false
 | none => false
def tyOk (P : Program) (t : Nat) (ti : TI) : Bool := tyOk0 P t ti && (match tyZero ti with | some z => zeroAt P t z (tySize ti) | none => true)
theorem zeroOk_elim : ∀ (vs : List Value) (z : List PV), zeroOk vs z = true → vs.length = z.length ∧ ∀ (j : Nat) (u : Value), vs[j]? = some u → ∃ pv : PV, z[j]? = some pv ∧ u.oneCell' = true ∧ ∀ S w, PRep S w pv u := by
 intro vs
 induction vs with
 | nil =>
  intro z hz
  cases z with
  | nil => exact ⟨rfl, fun j u hj => by simp at hj⟩
  | cons a r => simp [zeroOk] at hz
 | cons v vs ih =>
  intro z hz
  cases z with
  | nil => cases v <;> simp [zeroOk] at hz
  | cons p z =>
   have step : ∀ (hz' : zeroOk vs z = true) (hone : v.oneCell' = true) (hp : ∀ S w, PRep S w p v), (v :: vs).length = (p :: z).length ∧ ∀ (j : Nat) (u : Value), (v :: vs)[j]? = some u → ∃ pv : PV, (p :: z)[j]? = some pv ∧ u.oneCell' = true ∧ ∀ S w, PRep S w pv u := by
    intro hz' hone hp
    obtain ⟨h1, h2⟩ := ih z hz'
    refine ⟨by simp [h1], fun j u hj => ?_⟩
    cases j with
    | zero => simp at hj; subst hj; exact ⟨p, rfl, hone, hp⟩
    | succ j => simp at hj; obtain ⟨pv, q1, q2⟩ := h2 j u hj; exact ⟨pv, by simpa using q1, q2⟩
   cases v with
   | int k n =>
    cases p <;> simp [zeroOk] at hz
    obtain ⟨⟨hk, hn⟩, hz⟩ := hz
    have := kindEq_elim hk
    subst this hn
    exact step hz rfl fun S w => .int _ _
   | bool b =>
    cases p <;> simp [zeroOk] at hz
    obtain ⟨hb, hz⟩ := hz
    subst hb
    exact step hz rfl fun S w => .bool _
   | string s =>
    cases p <;> simp [zeroOk] at hz
    obtain ⟨hs, hz⟩ := hz
    subst hs
    exact step hz rfl fun S w => PRep.str _
   | slice a n c =>
    cases a with
    | some a => cases p <;> simp [zeroOk] at hz
    | none =>
     cases n with
     | succ n => cases p <;> simp [zeroOk] at hz
     | zero =>
      cases c with
      | succ c => cases p <;> simp [zeroOk] at hz
      | zero =>
       cases p <;> simp [zeroOk] at hz
       exact step hz rfl fun S w => .nils
   | _ => cases p <;> simp [zeroOk] at hz
theorem sizeIs_elim {P : Program} {t n : Nat} (h : sizeIs P t n = true) : ∃ i, P.info? t = some i ∧ i.size = n := by
 unfold sizeIs at h
 split at h
 ·rename_i i hi; exact ⟨i, hi, Nat.eq_of_beq_eq_true h⟩
 ·cases h
theorem fieldsOk_elim {P : Program} : ∀ (fs : List Field) (fl : List (Nat × Nat × Bool)), fieldsOk P fs fl = true → fl.length = fs.length ∧
  ∀ (k : Nat) (off size : Nat) (ag : Bool), fl[k]? = some (off, size, ag) → ∃ f j d, fs[k]? = some f ∧ f.offset = off ∧ P.info? f.type = some j ∧ j.size = size ∧ 0 < size ∧ P.underlying f.type = some d ∧ ag = aggD d
 | [], [], _ => ⟨rfl, fun k off size ag hk => by simp at hk⟩
 | [], _ :: _, h => by simp [fieldsOk] at h
 | _ :: _, [], h => by simp [fieldsOk] at h
 | f :: r, (off, size, ag) :: r', h => by
  simp only [fieldsOk, Bool.and_eq_true] at h
  obtain ⟨⟨⟨⟨h1, h2⟩, h3⟩, h4⟩, h5⟩ := h
  obtain ⟨q1, q2⟩ := fieldsOk_elim r r' h5
  refine ⟨by simp [q1], fun k off' size' ag' hk => ?_⟩
  cases k with
  | zero =>
   simp at hk
   obtain ⟨rfl, rfl, rfl⟩ := hk
   obtain ⟨j, hj, hjs⟩ := sizeIs_elim h2
   cases hu : P.underlying f.type with
   | none => rw [hu] at h4; cases h4
   | some d =>
    rw [hu] at h4
    exact ⟨f, j, d, rfl, Nat.eq_of_beq_eq_true h1, hj, hjs, by simpa using h3, hu, by simpa using h4⟩
  | succ k => exact q2 k off' size' ag' (by simpa using hk)
theorem look_mem : ∀ (l : List (Nat × TI)) (t : Nat) (ti : TI), look l t = ti → ti = .other ∨ (t, ti) ∈ l
 | [], t, ti, h => .inl h.symm
 | (k, x) :: r, t, ti, h => by
  unfold look at h
  split at h
  ·rename_i hb
   have := Nat.eq_of_beq_eq_true hb
   subst this h
   exact .inr (by simp)
  ·rcases look_mem r t ti h with h1 | h1
   ·exact .inl h1
   ·exact .inr (by simp [h1])
theorem tabOk {P : Program} {l : List (Nat × TI)} (hl : l.all (fun p => tyOk P p.1 p.2) = true) : TabOk P (mkTab l) := by
 have all' : ∀ t ti, (mkTab l).get t = ti → ti ≠ .other → tyOk P t ti = true := fun t ti ht hn => by
  rcases look_mem l t ti ht with h1 | h1
  ·exact (hn h1).elim
  ·exact (List.all_eq_true.1 hl) _ h1
 have all : ∀ t ti, (mkTab l).get t = ti → ti ≠ .other → tyOk0 P t ti = true := fun t ti ht hn => by
  have := all' t ti ht hn
  simp only [tyOk, Bool.and_eq_true] at this
  exact this.1
 have zero : ∀ t z, tyZero ((mkTab l).get t) = some z → ∃ i zv, P.info? t = some i ∧ i.zero = some zv ∧ zv.cells.size = tySize ((mkTab l).get t) ∧ z.length = tySize ((mkTab l).get t) ∧
   ∀ (j : Nat) (u : Value), zv.cells[j]? = some u → ∃ pv : PV, z[j]? = some pv ∧ u.oneCell' = true ∧ ∀ S w, PRep S w pv u := fun t z hz => by
  have := all' t _ rfl (by intro h0; rw [h0] at hz; cases hz)
  simp only [tyOk, Bool.and_eq_true] at this
  have := this.2
  rw [hz] at this
  simp only [zeroAt] at this
  split at this
  ·rename_i i hi
   split at this
   ·rename_i zv hzv
    simp only [Bool.and_eq_true] at this
    obtain ⟨⟨h1, h2⟩, h3⟩ := this
    obtain ⟨_, r2⟩ := zeroOk_elim _ _ h3
    exact ⟨i, zv, hi, hzv, Nat.eq_of_beq_eq_true h1, Nat.eq_of_beq_eq_true h2, fun j u hj => r2 j u (by simpa using hj)⟩
   ·cases this
  ·cases this
 have one : ∀ t, tySize ((mkTab l).get t) = 1 → (∀ sz fl z, (mkTab l).get t ≠ .struct sz fl z) → ∃ i, P.info? t = some i ∧ i.size = 1 := fun t h1 h2 => by
  cases ht : (mkTab l).get t with
  | other => rw [ht] at h1; cases h1
  | struct sz fl z => exact (h2 _ _ _ ht).elim
  | int k => have := all t _ ht (by simp); simp only [tyOk0, Bool.and_eq_true] at this; exact sizeIs_elim this.2
  | bool => have := all t _ ht (by simp); simp only [tyOk0, Bool.and_eq_true] at this; exact sizeIs_elim this.2
  | str => have := all t _ ht (by simp); simp only [tyOk0, Bool.and_eq_true] at this; exact sizeIs_elim this.2
  | ptr e => have := all t _ ht (by simp); simp only [tyOk0, Bool.and_eq_true] at this; exact sizeIs_elim this.2
  | map k e z => have := all t _ ht (by simp); simp only [tyOk0, Bool.and_eq_true] at this; exact sizeIs_elim this.1.2
  | slice e sz b z => have := all t _ ht (by simp); simp only [tyOk0, Bool.and_eq_true] at this; exact sizeIs_elim this.1.1.1.2
 refine ⟨fun t sz fl z ht hz => by
   have := all t _ ht (by simp)
   simp only [tyOk0, Bool.and_eq_true, Bool.or_eq_true, Bool.not_eq_true'] at this
   rcases this.1.1 with h | h
   ·rw [hz] at h; cases h
   ·exact h, fun t k ht => ?_, fun t ht => ?_, fun t ht => ?_, fun t e ht => ?_, fun t e sz b z ht => ?_, fun t k e z ht => ?_, fun t e sz b z ht => ?_, one, zero, fun t sz fl z ht => ?_⟩
 ·have := all t _ ht (by simp)
  simp only [tyOk0, Bool.and_eq_true] at this
  have := this.1
  split at this
  ·rename_i k' hu; rw [hu, kindEq_elim this]
  ·cases this
 ·have := all t _ ht (by simp)
  simp only [tyOk0, Bool.and_eq_true] at this
  have := this.1
  split at this
  ·assumption
  ·cases this
 ·have := all t _ ht (by simp)
  simp only [tyOk0, Bool.and_eq_true] at this
  have := this.1
  split at this
  ·assumption
  ·cases this
 ·have := all t _ ht (by simp)
  simp only [tyOk0, Bool.and_eq_true] at this
  have := this.1
  split at this
  ·rename_i e' hu; rw [hu, Nat.eq_of_beq_eq_true this]
  ·cases this
 ·have := all t _ ht (by simp)
  simp only [tyOk0, Bool.and_eq_true] at this
  obtain ⟨⟨⟨⟨h1, h2⟩, h3⟩, h4⟩, h5⟩ := this
  refine ⟨?_, by simpa using h3, ?_⟩
  ·split at h1
   ·rename_i e' hu; rw [hu, Nat.eq_of_beq_eq_true h1]
   ·cases h1
  ·split at h5
   ·rename_i i hi
    simp only [Bool.and_eq_true] at h5
    obtain ⟨⟨q1, q2⟩, q3⟩ := h5
    split at q3
    ·rename_i zv hz
     simp only [Bool.and_eq_true] at q3
     obtain ⟨r1, r2⟩ := zeroOk_elim _ _ q3.2
     have e1 := Nat.eq_of_beq_eq_true q3.1
     refine ⟨i, zv, hi, Nat.eq_of_beq_eq_true q1, Nat.eq_of_beq_eq_true q2, hz, e1, ?_, fun j u hj => r2 j u (by simpa using hj)⟩
     rw [← r1, ← e1]; simp
    ·cases q3
   ·cases h5
 ·have := all t _ ht (by simp)
  simp only [tyOk0, Bool.and_eq_true] at this
  obtain ⟨⟨h1, _⟩, h3⟩ := this
  refine ⟨?_, ?_⟩
  ·split at h1
   ·rename_i k' e' hu
    simp only [Bool.and_eq_true] at h1
    rw [hu, Nat.eq_of_beq_eq_true h1.1, Nat.eq_of_beq_eq_true h1.2]
   ·cases h1
  ·split at h3
   ·rename_i i hi
    split at h3
    ·rename_i zv hz
     exact ⟨i, zv, hi, hz, mapZero_elim h3⟩
    ·cases h3
   ·cases h3
 ·have := all t _ ht (by simp)
  simp only [tyOk0, Bool.and_eq_true] at this
  simpa using this.1.2
 ·have := all t _ ht (by simp)
  simp only [tyOk0, Bool.and_eq_true] at this
  obtain ⟨⟨_, h1⟩, h2⟩ := this
  split at h1
  ·rename_i fs hu
   obtain ⟨q1, q2⟩ := fieldsOk_elim _ _ h1
   split at h2
   ·rename_i i hi
    simp only [Bool.and_eq_true] at h2
    obtain ⟨r1, r2⟩ := h2
    split at r2
    ·rename_i zv hz
     simp only [Bool.and_eq_true] at r2
     obtain ⟨s1, s2⟩ := zeroOk_elim _ _ r2.2
     have e1 := Nat.eq_of_beq_eq_true r2.1
     refine ⟨fs, i, hu, hi, Nat.eq_of_beq_eq_true r1, by simpa using q1, ⟨zv, hz, e1, by rw [← s1, ← e1]; simp, fun j u hj => s2 j u (by simpa using hj)⟩, fun k off size ag hk => ?_⟩
     obtain ⟨f, j, d, t1, t2⟩ := q2 k off size ag hk
     exact ⟨f, j, d, by simpa using t1, t2⟩
    ·cases r2
   ·cases h2
  ·cases h1
theorem prep_ints {S : Nat → Prop} {w : World} {k : IntKind} {a : Option Addr} {len cap : Nat} {zs : List Int}
  (h : (a = none ∧ len = 0 ∧ cap = 0 ∧ zs = []) ∨ ∃ x, a = some x ∧ len ≤ cap ∧ cap ≤ maxLen ∧ zs.length = cap ∧ (∀ i, i < zs.length → w.cell? (x.add i) = some (.int k (zs.getD i 0))) ∧ ∀ n ∈ zs, (Lit.int k n).wf = true)
  (hS : ∀ b, b < w.heap.size → S b) : PRep S w (.slc 1 len (fun i => [.int k (zs.getD i 0)])) (.slice a len cap) := by
 rcases h with ⟨rfl, rfl, rfl, rfl⟩ | ⟨x, rfl, hl, hm, hz, hcell, hwz⟩
 ·exact .slc0 _ _ _ _
 ·rcases Nat.eq_zero_or_pos len with h0 | h0
  ·subst h0; exact .slc0 _ _ _ _
  ·obtain ⟨b, off, spot⟩ := x
   have hc0 := hcell 0 (by omega)
   have hspot : spot = none := by simpa [Addr.add] using World.cell?_spot hc0
   subst hspot
   have hb : b < w.heap.size := by
    have := World.block_lt_of_cell? _ _ hc0
    simpa [Addr.add] using this
   refine .slc 1 len _ b off cap (fun i _ => .int k (zs.getD i 0)) (hS b hb) (fun _ _ => rfl) hl (fun i j pv hi hj => ?_) (fun i j pv hi hj => ?_)
   ·have hj0 : j = 0 := by
     have := (List.getElem?_eq_some_iff.1 hj).1
     simp at this
     exact this
    subst hj0
    have := hcell i (by omega)
    rw [Addr.add_lit] at this
    rw [Nat.mul_one, Nat.add_zero]
    exact this
   ·have hj0 : j = 0 := by
     have := (List.getElem?_eq_some_iff.1 hj).1
     simp at this
     exact this
    subst hj0
    simp at hj
    subst hj
    exact .int _ _
theorem law_end {P : Program} {f : FuncId} {args : List PV} {vs : Array Value} {w : World} (hamb : amb (fun b => b < w.heap.size) w) (hA : ACall P f args [] (fun res _ => res = .bool true)) (hsz : vs.size = args.length)
  (ha : ∀ (j : Nat) (pv : PV), args[j]? = some pv → ∃ v, vs[j]? = some v ∧ PRep (fun b => b < w.heap.size) w pv v) :
  Calls P f vs w fun e w' => e = .returned (.bool true) ∧ Below w.heap.size w w' := by
 refine (hA.2 w vs (fun _ => none) (fun b => b < w.heap.size) (fun id g sz n e f hid => by simp at hid) ⟨fun b ⟨id, g, sz, n, e, f, base, h1, _⟩ => by simp at h1, fun b ⟨id, g, sz, n, e, f, base, h1, _⟩ => by simp at h1, fun b hb => hb, fun i j g sz n e f g' sz' n' e' f' b o o' hi => by simp at hi, hamb⟩ hsz (fun j pv hj => ?_)).mono ?_
 ·obtain ⟨v, h1, h2⟩ := ha j pv hj
  refine ⟨v, h1, ?_⟩
  have hc : CRep (fun _ => none) [] (fun b => b < w.heap.size) w pv v := CRep.of_pure h2
  cases pv with
  | agg cs => exact (show False from hc).elim
  | tup cs => exact (show False from hc).elim
  | junk => trivial
  | _ => exact hc
 ·rintro e w' ⟨v, res, h', μ', S', rfl, rfl, hv, hH, hM, hF⟩
  refine ⟨by rw [hv.bool_inv], hF.os, hF.tape, hF.output, hF.size, fun b hb => hF.blocks b hb (fun ⟨id, g, sz, n, e, f, base, h1, _⟩ => by simp at h1)⟩
section
variable {h η : List AObj} {k : List Nat}
theorem Fz.int_eq {k' : IntKind} {n n' : Int} (he : n = n') : Fz h η k (.int k' n) (.int k' n') := by subst he; exact .int _ _
theorem Fz.bool_eq {b b' : Bool} (he : b = b') : Fz h η k (.bool b) (.bool b') := by subst he; exact .bool _
theorem Fz.str_eq {s s' : List UInt8} (he : s = s') : Fz h η k (.str s) (.str s') := by subst he; exact .str _
theorem Fz.frz_eq {id g sz n off len sz' len' : Nat} {e : TypeId} {f f' : Nat → List PV} (hk : id ∉ k) (ho : h[id]? = some (AObj.row g sz n e f)) (h1 : sz = sz') (h2 : len = len') (hp : ∀ i, i < len' → (f' i).all isPure = true)
  (hf : ∀ i, i < len' → FzL h η k (f (off + i)) (f' i)) : Fz h η k (.own id g off len) (.slc sz' len' f') := by
 subst h1 h2
 exact .frz id g sz n off len e f f' hk ho (fun i hi => (FzL.get _ _ (hf i hi)).1) (fun i j pv hi hj => (List.all_eq_true.1 (hp i hi)) pv (List.mem_of_getElem? hj)) (fun i j pv pv' hi h1 h2 => (FzL.get _ _ (hf i hi)).2 j pv pv' h1 h2)
theorem Fz.agg_l {cs cs' : List PV} (hl : FzL h η k cs cs') : Fz h η k (.agg cs) (.agg cs') := .agg _ _ (FzL.get _ _ hl).1 (FzL.get _ _ hl).2
theorem Fz.tup_l {cs cs' : List PV} (hl : FzL h η k cs cs') : Fz h η k (.tup cs) (.tup cs') := .tup _ _ (FzL.get _ _ hl).1 (FzL.get _ _ hl).2
theorem bif_lt {α : Type} {i l : Nat} {a b : α} (hil : i < l) : (bif Nat.blt i l then a else b) = a := by
 have hb : Nat.blt i l = true := by simpa using hil
 rw [hb]; rfl
theorem bif_ge {α : Type} {i l : Nat} {a b : α} (hil : l ≤ i) : (bif Nat.blt i l then a else b) = b := by
 have hb : Nat.blt i l = false := by
  cases hh : Nat.blt i l with
  | true =>
   have : i < l := by simpa using hh
   omega
  | false => rfl
 rw [hb]; rfl
end
theorem w64 {x : Int} (h1 : -9223372036854775808 ≤ x) (h2 : x ≤ 9223372036854775807) : IntKind.i64.wrap x = x := by rw [IntKind.wrap_i64]; omega
theorem ACall.snapL {P : Program} {f : FuncId} {args args' : List PV} {R : PV → List AObj → Prop} (hA : ACall P f args' [] R) (h : List AObj) (hz : FzL h [] [] args args') (hn : args'.all notTup = true)
  (hflat : ∀ r0 h0, R r0 h0 → flatV r0 = true ∧ ∀ o ∈ h0, flatO o) :
  ACall P f args h (fun res h' => ∃ r0 h0, R r0 h0 ∧ res = shiftV h.length r0 ∧ h' = h ++ h0.map (shiftO h.length)) := by
 obtain ⟨h1, h2⟩ := FzL.get _ _ hz
 exact hA.snap h h1 (fun j pv pv' q1 q2 => ⟨h2 j pv pv' q1 q2, (List.all_eq_true.1 hn) pv' (List.mem_of_getElem? q2)⟩) hflat
theorem Fz.snap {h : List AObj} {id g sz n off len sz' len' : Nat} {e : TypeId} {f f' : Nat → List PV} (ho : h[id]? = some (AObj.row g sz n e f)) (h1 : sz = sz') (h2 : len = len') (hp : ∀ i, i < len' → (f' i).all isPure = true)
  (hf : ∀ i, i < len' → FzL h [] [] (f (off + i)) (f' i)) : Fz h [] [] (.own id g off len) (.slc sz' len' f') := .frz_eq (by simp) ho h1 h2 hp hf
theorem row_wf {w : World} {k : IntKind} {a : Option Addr} {len cap : Nat} {zs : List Int}
  (h : (a = none ∧ len = 0 ∧ cap = 0 ∧ zs = []) ∨ ∃ x, a = some x ∧ len ≤ cap ∧ cap ≤ maxLen ∧ zs.length = cap ∧ (∀ i, i < zs.length → w.cell? (x.add i) = some (.int k (zs.getD i 0))) ∧ ∀ n ∈ zs, (Lit.int k n).wf = true) :
  ∀ i, (Lit.int k (zs.getD i 0)).wf = true := by
 intro i
 have h0 : (Lit.int k 0).wf = true := by cases k <;> decide
 rcases h with ⟨_, _, _, rfl⟩ | ⟨x, _, _, _, _, _, hwz⟩
 ·simpa using h0
 ·rcases Nat.lt_or_ge i zs.length with hi | hi
  ·rw [List.getD_eq_getElem?_getD, List.getElem?_eq_getElem hi]
   exact hwz _ (List.getElem_mem hi)
  ·rw [List.getD_eq_getElem?_getD, List.getElem?_eq_none hi]
   exact h0
theorem bytes_bd {w : World} {a : Option Addr} {len cap : Nat} {zs : List Int}
  (h : (a = none ∧ len = 0 ∧ cap = 0 ∧ zs = []) ∨ ∃ x, a = some x ∧ len ≤ cap ∧ cap ≤ maxLen ∧ zs.length = cap ∧ (∀ i, i < zs.length → w.cell? (x.add i) = some (.int .u8 (zs.getD i 0))) ∧ ∀ n ∈ zs, (Lit.int .u8 n).wf = true) :
  ∀ i, 0 ≤ zs.getD i 0 ∧ zs.getD i 0 ≤ 255 := by
 intro i
 have := row_wf h i
 have h2 : IntKind.u8.min = 0 ∧ IntKind.u8.max = 255 := by decide
 simp only [Lit.wf, Bool.and_eq_true, decide_eq_true_eq, h2.1, h2.2] at this
 omega
theorem ACall.heq {P : Program} {f : FuncId} {args : List PV} {h h2 : List AObj} {R : PV → List AObj → Prop} (hA : ACall P f args h R) (he : HEq' h2 h) : ACall P f args h2 R := by
 refine ⟨hA.1, fun w vs μ S hH hM hsz ha => ?_⟩
 obtain ⟨hH2, hM2⟩ := he.core ⟨hH, hM⟩
 refine (hA.2 w vs μ S hH2 hM2 hsz (fun j pv hj => ?_)).mono ?_
 ·obtain ⟨v, h1, h3⟩ := ha j pv hj
  exact ⟨v, h1, he.arep h3⟩
 ·rintro e w' ⟨v, res, h', μ', S', rfl, hr, hv, hH', hM', hF⟩
  refine ⟨v, res, h', μ', S', rfl, hr, hv, hH', hM', ⟨by rw [he.len]; exact hF.len, fun b hb ho => hF.blocks b hb (fun hx => ho (he.ownedR hx)), hF.sub, fun b hb => ?_, fun b hb => ?_, hF.size, hF.os, hF.tape, hF.output, fun id g sz n e f hid => ?_, fun id hid => hF.dead id (he.getD hid), fun b k ho hc => hF.caps b k (he.owned ho) hc, fun id g sz n e f b base hid hm hmb => ?_⟩⟩
  ·rcases hF.new b hb with h1 | h1 | h1
   ·exact .inl h1
   ·exact .inr (.inl (he.ownedR h1))
   ·exact .inr (.inr h1)
  ·rcases hF.own b hb with h1 | h1
   ·exact .inl (he.ownedR h1)
   ·exact .inr h1
  ·obtain ⟨f', h1, _⟩ := he.get hid
   exact hF.gens id g sz n e f' h1
  ·obtain ⟨f', h1, _⟩ := he.get hid
   exact hF.maps id g sz n e f' b base h1 hm hmb
end Go.Am
