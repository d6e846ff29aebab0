/- What the abstract machine's words keep: from one moment to a later one. -/
import Derived.Test.YtgkniabpdgaoiaaDoorBm1
namespace Go.Am
open Go Go.RowKit
theorem PRep.mono {S S' : Nat → Prop} {w w' : World} (hw : ∀ b, S b → w'.heap[b]? = w.heap[b]?) (hS : ∀ b, S b → S' b) {pv : PV} {v : Value} (h : PRep S w pv v) : PRep S' w' pv v := by
 induction h with
 | int k n => exact .int k n
 | bool b => exact .bool b
 | str s => exact .str s
 | nils => exact .nils
 | fn f => exact .fn f
 | slc0 sz f a c => exact .slc0 sz f a c
 | slc sz n f b off c vf h1 h2 h3 h4 _ ih =>
  exact .slc sz n f b off c vf (hS b h1) h2 h3 (fun i j pv hi hj => (World.cell?_of_block (w := w) (hw b h1)).trans (h4 i j pv hi hj)) ih
 | pptr cs b off vf h1 h4 _ ih =>
  exact .pptr cs b off vf (hS b h1) (fun j pv hj => (World.cell?_of_block (w := w) (hw b h1)).trans (h4 j pv hj)) ih
theorem CapOk.of_same {w w' : World} {b k : Nat} (h : w'.heap[b]? = w.heap[b]?) (hc : CapOk w b k) : CapOk w' b k := by
 obtain ⟨cur, e, h1, h2⟩ := hc
 exact ⟨cur, e, h.trans h1, h2⟩
theorem CapOk.least {w : World} {b k : Nat} (h : CapOk w b k) : CapOk w b 0 := by
 obtain ⟨cur, e, h1, h2⟩ := h
 exact ⟨cur, e, h1, Nat.zero_le _⟩
section
variable {μ μ' : Mu} {h h' : List AObj} {S S' : Nat → Prop} {w w' : World}
theorem CRep.of_pure {pv : PV} {v : Value} (hp : PRep S w pv v) : CRep μ h S w pv v := by
 cases hp <;> first | exact .int _ _ | exact .bool _ | exact .str _ | exact .nils | exact .fn _ | exact .slc0 _ _ _ _ | (rename_i h1 h2 h3 h4 h5 _; first | exact .slc _ _ _ _ _ _ _ ‹_› ‹_› ‹_› ‹_› ‹_›) | exact .pptr _ _ _ _ ‹_› ‹_› ‹_›
theorem CRep.fr (hf : Fr μ h S w μ' h' S' w') (hm : MuOk μ h S w) {pv : PV} {v : Value} (hc : CRep μ h S w pv v) : CRep μ' h' S' w' pv v := by
 have hS : ∀ b, S b → w'.heap[b]? = w.heap[b]? := fun b hb => hf.blocks b (hm.slt b hb) (fun ho => hm.apart b ho hb)
 have hoptr : ∀ (id gen i off : Nat) (v : Value), OptrRep μ h w id gen i off v → OptrRep μ' h' w' id gen i off v := fun id gen i off v hc => by
  unfold OptrRep at hc ⊢
  obtain ⟨hv0, hc⟩ := hc
  refine ⟨hv0, ?_⟩
  cases ho : h[id]? with
  | none => rw [ho] at hc; exact hc.elim
  | some o =>
   cases o with
   | dead => rw [hf.dead id ho]; trivial
   | row g sz n e f =>
    rw [ho] at hc
    have hg := hf.gens id g sz n e f ho
    cases ho' : h'[id]? with
    | none => rw [ho'] at hg; exact hg
    | some o' =>
     cases o' with
     | dead => trivial
     | row g' sz' n' e' f' =>
      rw [ho'] at hg
      obtain ⟨hle, hsame⟩ := hg
      obtain ⟨hgen, hc⟩ := hc
      refine ⟨Nat.le_trans hgen hle, fun he => ?_⟩
      have heq : g' = g := by omega
      obtain ⟨hμ, rfl, rfl, rfl⟩ := hsame heq
      obtain ⟨h1, h2⟩ := hc (by omega)
      refine ⟨h1, ?_⟩
      rw [hμ]
      obtain ⟨b, base, q1, q2, q3⟩ := h2
      exact ⟨b, base, q1, hf.caps b _ ⟨id, g, _, _, _, _, base, ho, q1⟩ q2, q3⟩
 cases pv with
 | own id gen off len =>
  have hc : OwnRep μ h w id gen off len v := hc
  show OwnRep μ' h' w' id gen off len v
  unfold OwnRep at hc ⊢
  obtain ⟨hv0, hc⟩ := hc
  refine ⟨hv0, ?_⟩
  cases ho : h[id]? with
  | none => rw [ho] at hc; exact hc.elim
  | some o =>
   cases o with
   | dead => rw [hf.dead id ho]; trivial
   | row g sz n e f =>
    rw [ho] at hc
    have hg := hf.gens id g sz n e f ho
    cases ho' : h'[id]? with
    | none => rw [ho'] at hg; exact hg
    | some o' =>
     cases o' with
     | dead => trivial
     | row g' sz' n' e' f' =>
      rw [ho'] at hg
      obtain ⟨hle, hsame⟩ := hg
      obtain ⟨hgen, hc⟩ := hc
      refine ⟨Nat.le_trans hgen hle, fun he => ?_⟩
      have heq : g' = g := by omega
      obtain ⟨hμ, rfl, rfl, rfl⟩ := hsame heq
      obtain ⟨h1, h2⟩ := hc (by omega)
      refine ⟨h1, ?_⟩
      rw [hμ]
      cases hmu : μ id with
      | none => rw [hmu] at h2; exact h2
      | some p =>
       obtain ⟨b, base⟩ := p
       rw [hmu] at h2
       obtain ⟨a, cap, h3, h4, h5, h6⟩ := h2
       exact ⟨a, cap, h3, h4, h5, hf.caps b _ ⟨id, g, _, _, _, _, base, ho, hmu⟩ h6⟩
 | optr id gen i off => exact hoptr _ _ _ _ _ hc
 | clo f caps => exact CloP.mono (show CloRep μ h w f caps v from hc) (fun id g u hu => hoptr _ _ _ _ _ hu)
 | omp id =>
  have hc : OmpRep μ h w id v := hc
  show OmpRep μ' h' w' id v
  unfold OmpRep at hc ⊢
  obtain ⟨hv0, hc⟩ := hc
  refine ⟨hv0, ?_⟩
  cases ho : h[id]? with
  | none => rw [ho] at hc; exact hc.elim
  | some o =>
   cases o with
   | dead => rw [hf.dead id ho]; trivial
   | row g sz n e f =>
    rw [ho] at hc
    obtain ⟨b, base, q1, q2, q3⟩ := hc
    obtain ⟨r1, r2⟩ := hf.maps id g sz n e f b base ho q1 q2
    rcases r2 with r2 | ⟨⟨g', sz', n', e', f', r2⟩, r3⟩
    ·rw [r2]; trivial
    ·rw [r2]; exact ⟨b, base, r3, r1, q3⟩
 | junk => exact hc
 | agg cs => exact hc.elim
 | tup cs => exact hc.elim
 | int k n => exact PRep.mono hS hf.sub hc
 | bool b => exact PRep.mono hS hf.sub hc
 | str s => exact PRep.mono hS hf.sub hc
 | nils => exact PRep.mono hS hf.sub hc
 | slc sz n f => exact PRep.mono hS hf.sub hc
 | pptr cs => exact PRep.mono hS hf.sub hc
 | fn f => exact PRep.mono hS hf.sub hc
theorem ARep.fr (hf : Fr μ h S w μ' h' S' w') (hm : MuOk μ h S w) {pv : PV} {v : Value} (hc : ARep μ h S w pv v) : ARep μ' h' S' w' pv v := by
 cases pv with
 | agg cs =>
  obtain ⟨vs, h1, h2, h3⟩ := hc
  exact ⟨vs, h1, h2, fun j pv hj => let ⟨u, hu, hr⟩ := h3 j pv hj; ⟨u, hu, hr.fr hf hm⟩⟩
 | int k n => exact CRep.fr (pv := .int k n) hf hm hc
 | bool b => exact CRep.fr (pv := .bool b) hf hm hc
 | str s => exact CRep.fr (pv := .str s) hf hm hc
 | nils  => exact CRep.fr (pv := .nils ) hf hm hc
 | slc sz n f => exact CRep.fr (pv := .slc sz n f) hf hm hc
 | pptr cs => exact CRep.fr (pv := .pptr cs) hf hm hc
 | own id gen off len => exact CRep.fr (pv := .own id gen off len) hf hm hc
 | optr id gen i off => exact CRep.fr (pv := .optr id gen i off) hf hm hc
 | omp id => exact CRep.fr (pv := .omp id) hf hm hc
 | clo f caps => exact CRep.fr (pv := .clo f caps) hf hm hc
 | fn f => exact CRep.fr (pv := .fn f) hf hm hc
 | junk => trivial
 | tup cs => exact (show False from hc).elim
theorem VRep.fr (hf : Fr μ h S w μ' h' S' w') (hm : MuOk μ h S w) {pv : PV} {v : Value} (hc : VRep μ h S w pv v) : VRep μ' h' S' w' pv v := by
 cases pv with
 | tup cs =>
  obtain ⟨vs, h1, h2, h3⟩ := hc
  exact ⟨vs, h1, h2, fun j pv hj => let ⟨u, hu, hr⟩ := h3 j pv hj; ⟨u, hu, hr.fr hf hm⟩⟩
 | int k n => exact ARep.fr (pv := .int k n) hf hm hc
 | bool b => exact ARep.fr (pv := .bool b) hf hm hc
 | str s => exact ARep.fr (pv := .str s) hf hm hc
 | nils  => exact ARep.fr (pv := .nils ) hf hm hc
 | slc sz n f => exact ARep.fr (pv := .slc sz n f) hf hm hc
 | pptr cs => exact ARep.fr (pv := .pptr cs) hf hm hc
 | own id gen off len => exact ARep.fr (pv := .own id gen off len) hf hm hc
 | optr id gen i off => exact ARep.fr (pv := .optr id gen i off) hf hm hc
 | omp id => exact ARep.fr (pv := .omp id) hf hm hc
 | clo f caps => exact ARep.fr (pv := .clo f caps) hf hm hc
 | fn f => exact ARep.fr (pv := .fn f) hf hm hc
 | junk => trivial
 | agg cs => exact ARep.fr (pv := .agg cs) hf hm hc
theorem PRep.one {pv : PV} {v : Value} (hp : PRep S w pv v) : v.oneCell' = true := by cases hp <;> rfl
theorem CRep.one {pv : PV} {v : Value} (hc : CRep μ h S w pv v) : v.oneCell' = true := by
 cases pv with
 | own id gen off len =>
  obtain ⟨⟨a, l, c, rfl⟩, _⟩ := (show OwnRep μ h w id gen off len v from hc)
  rfl
 | optr id gen i off =>
  obtain ⟨⟨a, rfl⟩, _⟩ := (show OptrRep μ h w id gen i off v from hc)
  rfl
 | omp id =>
  obtain ⟨⟨a, rfl⟩, _⟩ := (show OmpRep μ h w id v from hc)
  rfl
 | clo f caps =>
  obtain ⟨vs, rfl, _⟩ := (show CloRep μ h w f caps v from hc)
  rfl
 | junk => exact hc
 | agg cs => exact (show False from hc).elim
 | tup cs => exact (show False from hc).elim
 | int k n => exact PRep.one (show PRep S w _ v from hc)
 | bool b => exact PRep.one (show PRep S w _ v from hc)
 | str s => exact PRep.one (show PRep S w _ v from hc)
 | nils => exact PRep.one (show PRep S w _ v from hc)
 | slc sz n f => exact PRep.one (show PRep S w _ v from hc)
 | pptr cs => exact PRep.one (show PRep S w _ v from hc)
 | fn f => exact PRep.one (show PRep S w _ v from hc)
theorem Fr.refl : Fr μ h S w μ h S w where
 len := Nat.le_refl _
 blocks _ _ _ := rfl
 sub _ hb := hb
 new _ hb := .inl hb
 own _ hb := .inl hb
 size := Nat.le_refl _
 os := rfl
 tape := rfl
 output := rfl
 gens id g sz n e f hh := by rw [hh]; exact ⟨Nat.le_refl _, fun _ => ⟨rfl, rfl, rfl, rfl⟩⟩
 dead _ hh := hh
 caps _ _ _ hc := hc
 maps id g sz n e f b base ho hm hb := ⟨hb, .inr ⟨⟨g, sz, n, e, f, ho⟩, hm⟩⟩
theorem Fr.trans {μ'' : Mu} {h'' : List AObj} {S'' : Nat → Prop} {w'' : World} (a : Fr μ h S w μ' h' S' w') (b : Fr μ' h' S' w' μ'' h'' S'' w'') : Fr μ h S w μ'' h'' S'' w'' where
 len := Nat.le_trans a.len b.len
 blocks k hk hn := (b.blocks k (Nat.lt_of_lt_of_le hk a.size) (fun ho => by
  rcases a.own k ho with h1 | h1
  ·exact hn h1
  ·omega)).trans (a.blocks k hk hn)
 sub k hk := b.sub k (a.sub k hk)
 new k hk := by
  rcases b.new k hk with h1 | h1 | h1
  ·exact a.new k h1
  ·rcases a.own k h1 with h2 | h2
   ·exact .inr (.inl h2)
   ·exact .inr (.inr h2)
  ·exact .inr (.inr (Nat.le_trans a.size h1))
 own k hk := by
  rcases b.own k hk with h1 | h1
  ·exact a.own k h1
  ·exact .inr (Nat.le_trans a.size h1)
 size := Nat.le_trans a.size b.size
 os := b.os.trans a.os
 tape := b.tape.trans a.tape
 output := b.output.trans a.output
 gens id g sz n e f hh := by
  have h1 := a.gens id g sz n e f hh
  cases ho' : h'[id]? with
  | none => rw [ho'] at h1; exact h1.elim
  | some o' =>
   cases o' with
   | dead => rw [b.dead id ho']; trivial
   | row g' sz' n' e' f' =>
    rw [ho'] at h1
    have h2 := b.gens id g' sz' n' e' f' ho'
    cases ho'' : h''[id]? with
    | none => rw [ho''] at h2; exact h2
    | some o'' =>
     cases o'' with
     | dead => trivial
     | row g'' sz'' n'' e'' f'' =>
      rw [ho''] at h2
      refine ⟨Nat.le_trans h1.1 h2.1, fun he => ?_⟩
      have e1 : g' = g := by have := h1.1; have := h2.1; omega
      have e2 : g'' = g' := by omega
      obtain ⟨x1, x2, x3, x4⟩ := h1.2 e1
      obtain ⟨y1, y2, y3, y4⟩ := h2.2 e2
      exact ⟨y1.trans x1, y2.trans x2, y3.trans x3, y4.trans x4⟩
 dead id hh := b.dead id (a.dead id hh)
 caps k c ho hc := by
  have h1 := a.caps k c ho hc
  by_cases h2 : Owned μ' h' k
  ·exact b.caps k c h2 h1
  ·refine CapOk.of_same (b.blocks k ?_ h2) h1
   obtain ⟨cur, e, h3, _⟩ := h1
   exact (Array.getElem?_eq_some_iff.1 h3).1
 maps id g sz n e f k base ho hm hb := by
  obtain ⟨h1, h2⟩ := a.maps id g sz n e f k base ho hm hb
  rcases h2 with h2 | ⟨⟨g', sz', n', e', f', h2⟩, h3⟩
  ·refine ⟨?_, .inl (b.dead id h2)⟩
   by_cases h4 : Owned μ' h' k
   ·obtain ⟨j, g', sz', n', e', f', base', j1, j2⟩ := h4
    exact (b.maps j g' sz' n' e' f' k base' j1 j2 h1).1
   ·obtain ⟨es, c, h5⟩ := h1
    exact ⟨es, c, (b.blocks k (Array.getElem?_eq_some_iff.1 h5).1 h4).trans h5⟩
  ·exact b.maps id g' sz' n' e' f' k base h2 h3 h1
structure Agree (w w' : World) : Prop where
 blocks : ∀ b, b < w.heap.size → w'.heap[b]? = w.heap[b]?
 size : w.heap.size ≤ w'.heap.size
 os : w'.os = w.os
 tape : w'.tape = w.tape
 output : w'.output = w.output
theorem Agree.refl (w : World) : Agree w w := ⟨fun _ _ => rfl, Nat.le_refl _, rfl, rfl, rfl⟩
theorem Agree.trans {a b c : World} (x : Agree a b) (y : Agree b c) : Agree a c :=
 ⟨fun k hk => (y.blocks k (Nat.lt_of_lt_of_le hk x.size)).trans (x.blocks k hk), Nat.le_trans x.size y.size, y.os.trans x.os, y.tape.trans x.tape, y.output.trans x.output⟩
theorem Agree.cell {w w' : World} (h : Agree w w') {a : Addr} {u : Value} (hc : w.cell? a = some u) : w'.cell? a = some u :=
 (World.cell?_of_block (w := w) (h.blocks a.block (World.block_lt_of_cell? _ _ hc))).trans hc
theorem Agree.drew (w : World) : Agree w w.drew := ⟨fun _ _ => rfl, Nat.le_refl _, rfl, rfl, rfl⟩
theorem Agree.drewN (w : World) (n : Nat) : Agree w (w.drewN n) := ⟨fun _ _ => rfl, Nat.le_refl _, rfl, rfl, rfl⟩
theorem CapOk.lt {b k : Nat} (h : CapOk w b k) : b < w.heap.size := by
 obtain ⟨cur, e, h1, _⟩ := h
 exact (Array.getElem?_eq_some_iff.1 h1).1
theorem Fr.of_agree (ha : Agree w w') : Fr μ h S w μ h S w' where
 len := Nat.le_refl _
 blocks b hb _ := ha.blocks b hb
 sub _ hb := hb
 new _ hb := .inl hb
 own _ hb := .inl hb
 size := ha.size
 os := ha.os
 tape := ha.tape
 output := ha.output
 gens id g sz n e f hh := by rw [hh]; exact ⟨Nat.le_refl _, fun _ => ⟨rfl, rfl, rfl, rfl⟩⟩
 dead _ hh := hh
 caps b k _ hc := CapOk.of_same (ha.blocks b hc.lt) hc
 maps id g sz n e f b base ho hm hb := ⟨let ⟨es, c, h5⟩ := hb; ⟨es, c, (ha.blocks b (Array.getElem?_eq_some_iff.1 h5).1).trans h5⟩, .inr ⟨⟨g, sz, n, e, f, ho⟩, hm⟩⟩
theorem MuOk.amb_fr (hm : MuOk μ h S w) (hF : Fr μ h S w μ' h' S' w') : amb S' w' :=
 hm.known.keep (fun b hb => hF.blocks b (hm.slt b hb) (fun ho => hm.apart b ho hb)) hF.sub
theorem MuOk.agree (ha : Agree w w') (hm : MuOk μ h S w) : MuOk μ h S w' :=
 ⟨hm.apart, fun b hb => Nat.lt_of_lt_of_le (hm.lt b hb) ha.size, fun b hb => Nat.lt_of_lt_of_le (hm.slt b hb) ha.size, hm.inj, hm.known.keep (fun b hb => ha.blocks b (hm.slt b hb)) (fun _ hb => hb)⟩
theorem HeapRep.agree (ha : Agree w w') (hm : MuOk μ h S w) (hh : HeapRep μ h S w) : HeapRep μ h S w' := by
 intro id g sz n e f ho
 obtain ⟨h1, h2⟩ := hh id g sz n e f ho
 refine ⟨h1, ?_⟩
 cases hmu : μ id with
 | none => rw [hmu] at h2; exact h2
 | some p =>
  obtain ⟨b, base⟩ := p
  rw [hmu] at h2
  obtain ⟨o, h3, h4⟩ := h2
  have hlt : b < w.heap.size := (Array.getElem?_eq_some_iff.1 h3).1
  exact ⟨o, (ha.blocks b hlt).trans h3, h4.mono (fun _ _ _ _ _ _ hr => hr.fr (Fr.of_agree ha) hm)⟩
end
end Go.Am
