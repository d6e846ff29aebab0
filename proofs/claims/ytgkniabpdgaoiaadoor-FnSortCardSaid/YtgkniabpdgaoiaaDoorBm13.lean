/- A contract over some objects, used over more of them. -/
import Derived.Test.YtgkniabpdgaoiaaDoorBm12
set_option linter.unusedVariables false
set_option linter.unusedSimpArgs false
namespace Go.Am
open Go Go.RowKit
def ren1 (σ : Nat → Nat) : PV → PV
 | .own id gen off len => .own (σ id) gen off len
 | .optr id gen i off => .optr (σ id) gen i off
 | .omp id => .omp (σ id)
 | .clo f caps => .clo f (capMap σ caps)
 | v => v
def renA (σ : Nat → Nat) : PV → PV
 | .agg cs => .agg (cs.map (ren1 σ))
 | v => ren1 σ v
def renV (σ : Nat → Nat) : PV → PV
 | .tup vs => .tup (vs.map (renA σ))
 | v => renA σ v
def renO (σ : Nat → Nat) : AObj → AObj
 | .row g sz n e f => .row g sz n e (fun i => (f i).map (ren1 σ))
 | .dead => .dead
theorem ren1_back {σ : Nat → Nat} {a : PV} (h : scalA (ren1 σ a) = true) : ren1 σ a = a := by cases a <;> first | rfl | cases h
theorem ren1_scal {σ : Nat → Nat} {a : PV} (h : scalA a = true) : ren1 σ a = a := by cases a <;> first | rfl | cases h
section
variable {P : Program} {T : Tab} {μ μ0 μ1 : Mu} {h h0 h1 hc : List AObj} {S S0 S1 : Nat → Prop} {w w' : World} {σ : Nat → Nat}
theorem crep_ren {pv : PV} {v : Value} (hobj : ∀ j, (∃ g sz n e f, h0[j]? = some (AObj.row g sz n e f) ∧ (∃ f', h1[σ j]? = some (AObj.row g sz n e f')) ∧ μ1 (σ j) = μ0 j) ∨ (h0[j]? = some AObj.dead ∧ h1[σ j]? = some AObj.dead) ∨ h0[j]? = none)
  (hS : ∀ b, S0 b → S1 b) (hc : CRep μ0 h0 S0 w pv v) : CRep μ1 h1 S1 w (ren1 σ pv) v := by
 have hoptr : ∀ (id gen i off : Nat) (v : Value), OptrRep μ0 h0 w id gen i off v → OptrRep μ1 h1 w (σ id) gen i off v := fun id gen i off v hc => by
  unfold OptrRep at hc ⊢
  obtain ⟨q1, q2⟩ := hc
  refine ⟨q1, ?_⟩
  rcases hobj id with ⟨g, sz, n, e, f, r1, ⟨f', r2⟩, r3⟩ | ⟨r1, r2⟩ | r1
  ·rw [r1] at q2
   rw [r2]
   show gen ≤ g ∧ _
   rw [r3]
   exact q2
  ·rw [r2]; trivial
  ·rw [r1] at q2; exact q2.elim
 cases pv with
 | own id gen off len =>
  have hc : OwnRep μ0 h0 w id gen off len v := hc
  show OwnRep μ1 h1 w (σ id) gen off len v
  unfold OwnRep at hc ⊢
  obtain ⟨q1, q2⟩ := hc
  refine ⟨q1, ?_⟩
  rcases hobj id with ⟨g, sz, n, e, f, r1, ⟨f', r2⟩, r3⟩ | ⟨r1, r2⟩ | r1
  ·rw [r1] at q2
   rw [r2]
   show gen ≤ g ∧ _
   rw [r3]
   exact q2
  ·rw [r2]; trivial
  ·rw [r1] at q2; exact q2.elim
 | optr id gen i off => exact hoptr _ _ _ _ _ hc
 | clo f caps => exact CloP.map (O := fun id g u => OptrRep μ1 h1 w id g 0 0 u) (CloP.mono (show CloRep μ0 h0 w f caps v from hc) (fun id g u hu => hoptr id g 0 0 u hu))
 | omp id =>
  have hc : OmpRep μ0 h0 w id v := hc
  show OmpRep μ1 h1 w (σ id) v
  unfold OmpRep at hc ⊢
  obtain ⟨q1, q2⟩ := hc
  refine ⟨q1, ?_⟩
  rcases hobj id with ⟨g, sz, n, e, f, r1, ⟨f', r2⟩, r3⟩ | ⟨r1, r2⟩ | r1
  ·rw [r1] at q2
   rw [r2]
   obtain ⟨b, base, x1, x2⟩ := q2
   exact ⟨b, base, r3.trans x1, x2⟩
  ·rw [r2]; trivial
  ·rw [r1] at q2; exact q2.elim
 | junk => exact hc
 | agg cs => exact (show False from hc).elim
 | tup cs => exact (show False from hc).elim
 | int k n => exact PRep.mono (fun _ _ => rfl) hS hc
 | bool b => exact PRep.mono (fun _ _ => rfl) hS hc
 | str s => exact PRep.mono (fun _ _ => rfl) hS hc
 | nils => exact PRep.mono (fun _ _ => rfl) hS hc
 | slc sz n f => exact PRep.mono (fun _ _ => rfl) hS hc
 | pptr cs => exact PRep.mono (fun _ _ => rfl) hS hc
 | fn f => exact PRep.mono (fun _ _ => rfl) hS hc
theorem arep_ren {pv : PV} {v : Value} (hcell : ∀ pv v, CRep μ0 h0 S0 w pv v → CRep μ1 h1 S1 w (ren1 σ pv) v) (hc : ARep μ0 h0 S0 w pv v) : ARep μ1 h1 S1 w (renA σ pv) v := by
 cases pv with
 | agg cs =>
  obtain ⟨vs, q1, q2, q3⟩ := hc
  refine ⟨vs, q1, by simpa using q2, fun j pv hj => ?_⟩
  rw [List.getElem?_map] at hj
  cases hx : cs[j]? with
  | none => rw [hx] at hj; cases hj
  | some c =>
   rw [hx] at hj
   injection hj with hj
   subst hj
   obtain ⟨u, r1, r2⟩ := q3 j c hx
   exact ⟨u, r1, hcell _ _ r2⟩
 | junk => trivial
 | tup cs => exact (show False from hc).elim
 | own id gen off len => exact hcell (.own id gen off len) v hc
 | optr id gen i off => exact hcell (.optr id gen i off) v hc
 | omp id => exact hcell (.omp id) v hc
 | clo f caps => exact hcell (.clo f caps) v hc
 | int k n => exact hcell (.int k n) v hc
 | bool b => exact hcell (.bool b) v hc
 | str s => exact hcell (.str s) v hc
 | nils => exact hcell .nils v hc
 | slc sz n f => exact hcell (.slc sz n f) v hc
 | pptr cs => exact hcell (.pptr cs) v hc
 | fn f => exact hcell (.fn f) v hc
theorem vrep_ren {pv : PV} {v : Value} (hcell : ∀ pv v, CRep μ0 h0 S0 w pv v → CRep μ1 h1 S1 w (ren1 σ pv) v) (hc : VRep μ0 h0 S0 w pv v) : VRep μ1 h1 S1 w (renV σ pv) v := by
 cases pv with
 | tup cs =>
  obtain ⟨vs, q1, q2, q3⟩ := hc
  refine ⟨vs, q1, by simpa using q2, fun j pv hj => ?_⟩
  rw [List.getElem?_map] at hj
  cases hx : cs[j]? with
  | none => rw [hx] at hj; cases hj
  | some c =>
   rw [hx] at hj
   injection hj with hj
   subst hj
   obtain ⟨u, r1, r2⟩ := q3 j c hx
   exact ⟨u, r1, arep_ren hcell r2⟩
 | agg cs => exact arep_ren (pv := .agg cs) hcell hc
 | junk => trivial
 | own id gen off len => exact arep_ren (pv := .own id gen off len) hcell hc
 | optr id gen i off => exact arep_ren (pv := .optr id gen i off) hcell hc
 | omp id => exact arep_ren (pv := .omp id) hcell hc
 | clo f caps => exact arep_ren (pv := .clo f caps) hcell hc
 | int k n => exact arep_ren (pv := .int k n) hcell hc
 | bool b => exact arep_ren (pv := .bool b) hcell hc
 | str s => exact arep_ren (pv := .str s) hcell hc
 | nils => exact arep_ren (pv := .nils) hcell hc
 | slc sz n f => exact arep_ren (pv := .slc sz n f) hcell hc
 | pptr cs => exact arep_ren (pv := .pptr cs) hcell hc
 | fn f => exact arep_ren (pv := .fn f) hcell hc
structure Sel (σ : Nat → Nat) (m : Nat) (h : List AObj) : Prop where
 lt : ∀ j, j < m → σ j < h.length
 new : ∀ j, m ≤ j → σ j = h.length + (j - m)
 inj : ∀ i j, i < m → j < m → σ i = σ j → i = j
theorem Sel.inj' {m : Nat} (hs : Sel σ m h) {i j : Nat} (he : σ i = σ j) : i = j := by
 rcases Nat.lt_or_ge i m with hi | hi
 ·rcases Nat.lt_or_ge j m with hj | hj
  ·exact hs.inj i j hi hj he
  ·have := hs.lt i hi; have := hs.new j hj; omega
 ·rcases Nat.lt_or_ge j m with hj | hj
  ·have := hs.lt j hj; have := hs.new i hi; omega
  ·have := hs.new i hi; have := hs.new j hj; omega
structure After (σ : Nat → Nat) (h h0 h' : List AObj) : Prop where
 old : ∀ id, (∀ j, j < h0.length → σ j ≠ id) → h'[id]? = h[id]?
 sel : ∀ j o, h0[j]? = some o → h'[σ j]? = some (renO σ o)
 len : h.length ≤ h'.length
def muC (μ : Mu) (σ : Nat → Nat) (m : Nat) : Mu := fun j => if j < m then μ (σ j) else none
open Classical in
noncomputable def muA (μ : Mu) (σ : Nat → Nat) (m : Nat) (μ0 : Mu) : Mu := fun id => if hx : ∃ j, j < m ∧ σ j = id then μ0 (Classical.choose hx) else μ id
theorem muA_sel {m : Nat} (hinj : ∀ i j, σ i = σ j → i = j) {j : Nat} (hj : j < m) : muA μ σ m μ0 (σ j) = μ0 j := by
 have hx : ∃ i, i < m ∧ σ i = σ j := ⟨j, hj, rfl⟩
 unfold muA
 rw [dif_pos hx, hinj _ _ (Classical.choose_spec hx).2]
theorem muA_old {m id : Nat} (hn : ∀ j, j < m → σ j ≠ id) : muA μ σ m μ0 id = μ id := by
 unfold muA
 rw [dif_neg]
 rintro ⟨j, h1, h2⟩
 exact hn j h1 h2
theorem crep_back (hsel : Sel σ hc.length h) (hobj : ∀ j o, hc[j]? = some o → h[σ j]? = some (renO σ o)) {pv : PV} {v : Value} (hr : CRep μ h S w (ren1 σ pv) v) : CRep (muC μ σ hc.length) hc S w pv v := by
 have get : ∀ id, (∃ g sz n e f, hc[id]? = some (AObj.row g sz n e f) ∧ h[σ id]? = some (renO σ (AObj.row g sz n e f)) ∧ muC μ σ hc.length id = μ (σ id)) ∨ (hc[id]? = some AObj.dead ∧ h[σ id]? = some AObj.dead) ∨ h[σ id]? = none := fun id => by
  cases ho : hc[id]? with
  | none =>
   refine .inr (.inr (List.getElem?_eq_none ?_))
   have hge : hc.length ≤ id := List.getElem?_eq_none_iff.1 ho
   have := hsel.new id hge
   omega
  | some o =>
   have hlt := (List.getElem?_eq_some_iff.1 ho).1
   cases o with
   | dead => exact .inr (.inl ⟨rfl, hobj id _ ho⟩)
   | row g sz n e f => exact .inl ⟨g, sz, n, e, f, rfl, hobj id _ ho, by unfold muC; rw [if_pos hlt]⟩
 have hoptr : ∀ (id gen i off : Nat) (v : Value), OptrRep μ h w (σ id) gen i off v → OptrRep (muC μ σ hc.length) hc w id gen i off v := fun id gen i off v hr => by
  unfold OptrRep at hr ⊢
  obtain ⟨q1, q2⟩ := hr
  refine ⟨q1, ?_⟩
  rcases get id with ⟨g, sz, n, e, f, r1, r2, r3⟩ | ⟨r1, r2⟩ | r1
  ·rw [r2] at q2
   rw [r1]
   show gen ≤ g ∧ _
   rw [r3]
   exact q2
  ·rw [r1]; trivial
  ·rw [r1] at q2; exact q2.elim
 cases pv with
 | own id gen off len =>
  have hr : OwnRep μ h w (σ id) gen off len v := hr
  show OwnRep _ hc w id gen off len v
  unfold OwnRep at hr ⊢
  obtain ⟨q1, q2⟩ := hr
  refine ⟨q1, ?_⟩
  rcases get id with ⟨g, sz, n, e, f, r1, r2, r3⟩ | ⟨r1, r2⟩ | r1
  ·rw [r2] at q2
   rw [r1]
   show gen ≤ g ∧ _
   rw [r3]
   exact q2
  ·rw [r1]; trivial
  ·rw [r1] at q2; exact q2.elim
 | optr id gen i off => exact hoptr _ _ _ _ _ hr
 | clo f caps => exact CloP.mono (CloP.unmap (show CloRep μ h w f (capMap σ caps) v from hr)) (fun id g u hu => hoptr _ _ _ _ _ hu)
 | omp id =>
  have hr : OmpRep μ h w (σ id) v := hr
  show OmpRep _ hc w id v
  unfold OmpRep at hr ⊢
  obtain ⟨q1, q2⟩ := hr
  refine ⟨q1, ?_⟩
  rcases get id with ⟨g, sz, n, e, f, r1, r2, r3⟩ | ⟨r1, r2⟩ | r1
  ·rw [r2] at q2
   rw [r1]
   obtain ⟨b, base, x1, x2⟩ := q2
   exact ⟨b, base, r3.trans x1, x2⟩
  ·rw [r1]; trivial
  ·rw [r1] at q2; exact q2.elim
 | junk => exact hr
 | agg cs => exact (show False from hr).elim
 | tup cs => exact (show False from hr).elim
 | int k n => exact hr
 | bool b => exact hr
 | str s => exact hr
 | nils => exact hr
 | slc sz n f => exact hr
 | pptr cs => exact hr
 | fn f => exact hr
theorem arep_back (hsel : Sel σ hc.length h) (hobj : ∀ j o, hc[j]? = some o → h[σ j]? = some (renO σ o)) {pv : PV} {v : Value} (hr : ARep μ h S w (renA σ pv) v) : ARep (muC μ σ hc.length) hc S w pv v := by
 cases pv with
 | agg cs =>
  obtain ⟨vs, q1, q2, q3⟩ := hr
  refine ⟨vs, q1, by simpa using q2, fun j pv hj => ?_⟩
  obtain ⟨u, r1, r2⟩ := q3 j (ren1 σ pv) (by rw [List.getElem?_map, hj]; rfl)
  exact ⟨u, r1, crep_back hsel hobj r2⟩
 | junk => trivial
 | tup cs => exact (show False from hr).elim
 | own id gen off len => exact crep_back (μ := μ) (S := S) (w := w) (pv := .own id gen off len) hsel hobj hr
 | optr id gen i off => exact crep_back (μ := μ) (S := S) (w := w) (pv := .optr id gen i off) hsel hobj hr
 | omp id => exact crep_back (μ := μ) (S := S) (w := w) (pv := .omp id) hsel hobj hr
 | clo f caps => exact crep_back (μ := μ) (S := S) (w := w) (pv := .clo f caps) hsel hobj hr
 | int k n => exact crep_back (μ := μ) (S := S) (w := w) (pv := .int k n) hsel hobj hr
 | bool b => exact crep_back (μ := μ) (S := S) (w := w) (pv := .bool b) hsel hobj hr
 | str s => exact crep_back (μ := μ) (S := S) (w := w) (pv := .str s) hsel hobj hr
 | nils => exact crep_back (μ := μ) (S := S) (w := w) (pv := .nils) hsel hobj hr
 | slc sz n f => exact crep_back (μ := μ) (S := S) (w := w) (pv := .slc sz n f) hsel hobj hr
 | pptr cs => exact crep_back (μ := μ) (S := S) (w := w) (pv := .pptr cs) hsel hobj hr
 | fn f => exact crep_back (μ := μ) (S := S) (w := w) (pv := .fn f) hsel hobj hr
theorem ACall.sel {f : FuncId} {args args0 : List PV} {R : PV → List AObj → Prop} (hA : ACall P f args hc R) (h : List AObj) (hsel : Sel σ hc.length h) (hobj : ∀ j o, hc[j]? = some o → h[σ j]? = some (renO σ o))
  (hargs : args0 = args.map (renA σ)) (nxt : List AObj → List AObj) (hnxt : ∀ h0, hc.length ≤ h0.length → After σ h h0 (nxt h0)) :
  ACall P f args0 h (fun res h' => ∃ r0 h0, R r0 h0 ∧ res = renV σ r0 ∧ h' = nxt h0) := by
 refine ⟨hA.1, fun w vs μ S hH hM hsz ha => ?_⟩
 subst hargs
 have hinj : ∀ i j, σ i = σ j → i = j := fun i j => hsel.inj'
 have ownC : ∀ b, Owned (muC μ σ hc.length) hc b → Owned μ h b ∧ ∃ j, j < hc.length ∧ ∃ base, μ (σ j) = some (b, base) := fun b ⟨j, g, sz, n, e, f, base, q1, q2⟩ => by
  have hlt := (List.getElem?_eq_some_iff.1 q1).1
  unfold muC at q2
  rw [if_pos hlt] at q2
  exact ⟨⟨σ j, g, sz, n, e, _, base, hobj j _ q1, q2⟩, j, hlt, base, q2⟩
 have hHc : HeapRep (muC μ σ hc.length) hc S w := fun j g sz n e f hj => by
  have hlt := (List.getElem?_eq_some_iff.1 hj).1
  obtain ⟨q1, q2⟩ := hH (σ j) _ _ _ _ _ (hobj j _ hj)
  refine ⟨fun i hi => by simpa using q1 i hi, ?_⟩
  have hm : muC μ σ hc.length j = μ (σ j) := by unfold muC; rw [if_pos hlt]
  rw [hm]
  cases hmu : μ (σ j) with
  | none => rw [hmu] at q2; exact q2
  | some p =>
   obtain ⟨b, base⟩ := p
   rw [hmu] at q2
   obtain ⟨o, r1, r2⟩ := q2
   refine ⟨o, r1, ?_⟩
   cases o with
   | cells cur e' z =>
    obtain ⟨x1, x2, x3, r3⟩ := r2
    refine ⟨x1, x2, x3, fun i k pv hi hk => ?_⟩
    obtain ⟨u, s1, s2⟩ := r3 i k (ren1 σ pv) hi (by rw [List.getElem?_map, hk]; rfl)
    exact ⟨u, s1, crep_back hsel hobj s2⟩
   | map es c =>
    obtain ⟨x1, r3⟩ := r2
    refine ⟨x1, fun i hi => ?_⟩
    obtain ⟨kp, vp, en, y1, y2, y3, y4⟩ := r3 i hi
    refine ⟨kp, vp, en, ?_, y2, y3, y4⟩
    have y1 : (f i).map (ren1 σ) = [kp, vp] := y1
    generalize f i = l at y1
    rcases l with _ | ⟨a, _ | ⟨b, _ | ⟨c3, l3⟩⟩⟩ <;> simp at y1
    obtain ⟨rfl, rfl⟩ := y1
    rw [ren1_back y2, ren1_back y3]
   | _ => exact r2.elim
 have hMc : MuOk (muC μ σ hc.length) hc S w := ⟨fun b hb => hM.apart b (ownC b hb).1, fun b hb => hM.lt b (ownC b hb).1, hM.slt, fun i j gi szi ni ei fi gj szj nj ej fj b o o' hi hj hmi hmj => by
  have hli := (List.getElem?_eq_some_iff.1 hi).1
  have hlj := (List.getElem?_eq_some_iff.1 hj).1
  unfold muC at hmi hmj
  rw [if_pos hli] at hmi
  rw [if_pos hlj] at hmj
  exact hinj _ _ (hM.inj _ _ _ _ _ _ _ _ _ _ _ _ _ _ _ (hobj i _ hi) (hobj j _ hj) hmi hmj), hM.known⟩
 refine (hA.2 w vs _ S hHc hMc (by simpa using hsz) (fun j pv hj => ?_)).mono ?_
 ·obtain ⟨v, q1, q2⟩ := ha j (renA σ pv) (by rw [List.getElem?_map, hj]; rfl)
  exact ⟨v, q1, arep_back hsel hobj q2⟩
 ·rintro e w' ⟨v, r0, h0, μ0, S0, he, hR, hv, hH0, hM0, hF⟩
  have hlen : hc.length ≤ h0.length := hF.len
  have hA' := hnxt h0 hlen
  obtain ⟨h', hh'⟩ : ∃ h', h' = nxt h0 := ⟨_, rfl⟩
  rw [← hh'] at hA'
  have hmA : ∀ j, j < h0.length → muA μ σ h0.length μ0 (σ j) = μ0 j := fun j hj => muA_sel hinj hj
  have inv : ∀ id o, h'[id]? = some o → (∃ j o0, σ j = id ∧ h0[j]? = some o0 ∧ o = renO σ o0 ∧ muA μ σ h0.length μ0 id = μ0 j) ∨ ((∀ j, j < h0.length → σ j ≠ id) ∧ h[id]? = some o ∧ muA μ σ h0.length μ0 id = μ id) := fun id o hid => by
   by_cases hx : ∃ j, j < h0.length ∧ σ j = id
   ·obtain ⟨j, hj, rfl⟩ := hx
    have := hA'.sel j _ (List.getElem?_eq_getElem hj)
    rw [this] at hid
    injection hid with hid
    exact .inl ⟨j, _, rfl, List.getElem?_eq_getElem hj, hid.symm, hmA j hj⟩
   ·have hn : ∀ j, j < h0.length → σ j ≠ id := fun j hj he => hx ⟨j, hj, he⟩
    rw [hA'.old id hn] at hid
    exact .inr ⟨hn, hid, muA_old hn⟩
  have apart : ∀ id g sz n e f b base, (∀ j, j < h0.length → σ j ≠ id) → h[id]? = some (AObj.row g sz n e f) → μ id = some (b, base) → ¬ Owned (muC μ σ hc.length) hc b := fun id g sz n e f b base hn hid hm ⟨j, gj, szj, nj, ej, fj, bj, q1, q2⟩ => by
   have hlt := (List.getElem?_eq_some_iff.1 q1).1
   unfold muC at q2
   rw [if_pos hlt] at q2
   exact hn j (by omega) (hM.inj _ _ _ _ _ _ _ _ _ _ _ _ _ _ _ (hobj j _ q1) hid q2 hm)
  have hown : ∀ b, Owned (muA μ σ h0.length μ0) h' b → Owned μ0 h0 b ∨ ∃ id g sz n e f base, (∀ j, j < h0.length → σ j ≠ id) ∧ h[id]? = some (AObj.row g sz n e f) ∧ μ id = some (b, base) := fun b ⟨id, g, sz, n, e, f, base, q1, q2⟩ => by
   rcases inv id _ q1 with ⟨j, o0, rfl, r1, r2, r3⟩ | ⟨r1, r2, r3⟩
   ·rw [r3] at q2
    cases o0 with
    | dead => cases r2
    | row g0 sz0 n0 e0 f0 => exact .inl ⟨j, g0, sz0, n0, e0, f0, base, r1, q2⟩
   ·rw [r3] at q2
    exact .inr ⟨id, g, sz, n, e, f, base, r1, r2, q2⟩
  have hfr : Fr μ h S w (muA μ σ h0.length μ0) h' S0 w' := by
   refine ⟨hA'.len, fun b hb hno => hF.blocks b hb (fun ho => hno (ownC b ho).1), hF.sub, fun b hb => ?_, fun b hb => ?_, hF.size, hF.os, hF.tape, hF.output, fun id g sz n e f hid => ?_, fun id hid => ?_, fun b k hb hcap => ?_, fun id g sz n e f b base hid hm hmb => ?_⟩
   ·rcases hF.new b hb with q | q | q
    ·exact .inl q
    ·exact .inr (.inl (ownC b q).1)
    ·exact .inr (.inr q)
   ·rcases hown b hb with q | ⟨id, g, sz, n, e, f, base, _, q1, q2⟩
    ·rcases hF.own b q with r | r
     ·exact .inl (ownC b r).1
     ·exact .inr r
    ·exact .inl ⟨id, g, sz, n, e, f, base, q1, q2⟩
   ·by_cases hx : ∃ j, j < hc.length ∧ σ j = id
    ·obtain ⟨j, hj, rfl⟩ := hx
     have hj0 : j < h0.length := by omega
     have hjc := List.getElem?_eq_getElem hj
     have hob := hobj j _ hjc
     rw [hob] at hid
     cases hoc : hc[j] with
     | dead => rw [hoc] at hid; cases hid
     | row gc szc nc ec fc =>
      rw [hoc] at hid hjc
      injection hid with hid
      injection hid with e1 e2 e3 e4 e5
      subst e1 e2 e3 e4
      have hg := hF.gens j _ _ _ _ _ hjc
      have hs := hA'.sel j _ (List.getElem?_eq_getElem hj0)
      rw [List.getElem?_eq_getElem hj0] at hg
      rw [hs]
      cases ho0 : h0[j] with
      | dead => trivial
      | row g' sz' n' e' f' =>
       rw [ho0] at hg
       refine ⟨hg.1, fun hge => ?_⟩
       obtain ⟨a1, a2, a3, a4⟩ := hg.2 hge
       refine ⟨?_, a2, a3, a4⟩
       rw [hmA j hj0, a1]
       unfold muC
       rw [if_pos hj]
    ·have hn : ∀ j, j < h0.length → σ j ≠ id := fun j hj he => by
      rcases Nat.lt_or_ge j hc.length with h1 | h1
      ·exact hx ⟨j, h1, he⟩
      ·have := hsel.new j h1
       have := (List.getElem?_eq_some_iff.1 hid).1
       omega
     rw [hA'.old id hn, hid]
     exact ⟨Nat.le_refl _, fun _ => ⟨muA_old hn, rfl, rfl, rfl⟩⟩
   ·by_cases hx : ∃ j, j < hc.length ∧ σ j = id
    ·obtain ⟨j, hj, rfl⟩ := hx
     have hj0 : j < h0.length := by omega
     have hjc := List.getElem?_eq_getElem hj
     have hob := hobj j _ hjc
     rw [hob] at hid
     cases hoc : hc[j] with
     | row gc szc nc ec fc => rw [hoc] at hid; cases hid
     | dead =>
      rw [hoc] at hjc
      have hd := hF.dead j hjc
      exact hA'.sel j _ hd
    ·have hn : ∀ j, j < h0.length → σ j ≠ id := fun j hj he => by
      rcases Nat.lt_or_ge j hc.length with h1 | h1
      ·exact hx ⟨j, h1, he⟩
      ·have := hsel.new j h1
       have := (List.getElem?_eq_some_iff.1 hid).1
       omega
     rw [hA'.old id hn, hid]
   ·by_cases ho : Owned (muC μ σ hc.length) hc b
    ·exact hF.caps b k ho hcap
    ·exact CapOk.of_same (hF.blocks b hcap.lt ho) hcap
   ·by_cases hx : ∃ j, j < hc.length ∧ σ j = id
    ·obtain ⟨j, hj, rfl⟩ := hx
     have hj0 : j < h0.length := by omega
     have hjc := List.getElem?_eq_getElem hj
     have hob := hobj j _ hjc
     rw [hob] at hid
     cases hoc : hc[j] with
     | dead => rw [hoc] at hid; cases hid
     | row gc szc nc ec fc =>
      rw [hoc] at hid hjc
      have hmc : muC μ σ hc.length j = some (b, base) := by unfold muC; rw [if_pos hj]; exact hm
      obtain ⟨r1, r2⟩ := hF.maps j _ _ _ _ _ b base hjc hmc hmb
      refine ⟨r1, ?_⟩
      rcases r2 with r2 | ⟨⟨g', sz', n', e', f', r2⟩, r3⟩
      ·exact .inl (hA'.sel j _ r2)
      ·exact .inr ⟨⟨_, _, _, _, _, hA'.sel j _ r2⟩, (hmA j hj0).trans r3⟩
    ·have hn : ∀ j, j < h0.length → σ j ≠ id := fun j hj he => by
      rcases Nat.lt_or_ge j hc.length with h1 | h1
      ·exact hx ⟨j, h1, he⟩
      ·have := hsel.new j h1
       have := (List.getElem?_eq_some_iff.1 hid).1
       omega
     obtain ⟨es, c, q⟩ := hmb
     exact ⟨⟨es, c, (hF.blocks b (Array.getElem?_eq_some_iff.1 q).1 (apart id _ _ _ _ _ _ _ hn hid hm)).trans q⟩, .inr ⟨⟨_, _, _, _, _, (hA'.old id hn).trans hid⟩, (muA_old hn).trans hm⟩⟩
  have hcell : ∀ pv v, CRep μ0 h0 S0 w' pv v → CRep (muA μ σ h0.length μ0) h' S0 w' (ren1 σ pv) v := fun pv v hcr => by
   refine crep_ren (fun j => ?_) (fun _ hb => hb) hcr
   cases ho : h0[j]? with
   | none => exact .inr (.inr rfl)
   | some o =>
    have hlt := (List.getElem?_eq_some_iff.1 ho).1
    cases o with
    | dead => exact .inr (.inl ⟨rfl, hA'.sel j _ ho⟩)
    | row g sz n e f => exact .inl ⟨g, sz, n, e, f, rfl, ⟨_, hA'.sel j _ ho⟩, hmA j hlt⟩
  refine ⟨v, _, h', _, S0, he, ⟨r0, h0, hR, rfl, ?_⟩, vrep_ren hcell hv, fun id g sz n e f hid => ?_, ⟨fun b hb hs => ?_, fun b hb => ?_, hM0.slt, ?_, hM0.known⟩, hfr⟩
  ·exact hh'
  ·rcases inv id _ hid with ⟨j, o0, rfl, r1, r2, r3⟩ | ⟨r1, r2, r3⟩
   ·cases o0 with
    | dead => cases r2
    | row g0 sz0 n0 e0 f0 =>
     injection r2 with e1 e2 e3 e4 e5
     subst e1 e2 e3 e4 e5
     obtain ⟨q1, q2⟩ := hH0 j _ _ _ _ _ r1
     refine ⟨fun i hi => by simpa using q1 i hi, ?_⟩
     rw [r3]
     cases hmu : μ0 j with
     | none => rw [hmu] at q2; exact q2
     | some p =>
      obtain ⟨b, base⟩ := p
      rw [hmu] at q2
      obtain ⟨o, s1, s2⟩ := q2
      refine ⟨o, s1, ?_⟩
      cases o with
      | cells cur e' z =>
       obtain ⟨x1, x2, x3, s3⟩ := s2
       refine ⟨x1, x2, x3, fun i k pv hi hk => ?_⟩
       rw [List.getElem?_map] at hk
       cases hx : (f0 i)[k]? with
       | none => rw [hx] at hk; cases hk
       | some c =>
        rw [hx] at hk
        injection hk with hk
        subst hk
        obtain ⟨u, t1, t2⟩ := s3 i k c hi hx
        exact ⟨u, t1, hcell _ _ t2⟩
      | map es c =>
       obtain ⟨x1, s3⟩ := s2
       refine ⟨x1, fun i hi => ?_⟩
       obtain ⟨kp, vp, en, y1, y2, y3, y4⟩ := s3 i hi
       exact ⟨kp, vp, en, by show (f0 i).map (ren1 σ) = _; rw [y1]; show [ren1 σ kp, ren1 σ vp] = _; rw [ren1_scal y2, ren1_scal y3], y2, y3, y4⟩
      | _ => exact s2.elim
   ·obtain ⟨q1, q2⟩ := hH id _ _ _ _ _ r2
    refine ⟨q1, ?_⟩
    rw [r3]
    cases hmu : μ id with
    | none => rw [hmu] at q2; exact q2
    | some p =>
     obtain ⟨b, base⟩ := p
     rw [hmu] at q2
     obtain ⟨o, s1, s2⟩ := q2
     have hlt : b < w.heap.size := (Array.getElem?_eq_some_iff.1 s1).1
     exact ⟨o, (hF.blocks b hlt (apart id _ _ _ _ _ _ _ r1 r2 hmu)).trans s1, s2.mono (fun _ _ _ _ _ _ hr => hr.fr hfr hM)⟩
  ·rcases hown b hb with q | ⟨id, g, sz, n, e, f, base, q0, q1, q2⟩
   ·exact hM0.apart b q hs
   ·rcases hF.new b hs with r | r | r
    ·exact hM.apart b ⟨id, g, sz, n, e, f, base, q1, q2⟩ r
    ·exact apart id _ _ _ _ _ _ _ q0 q1 q2 r
    ·have := hM.lt b ⟨id, g, sz, n, e, f, base, q1, q2⟩; omega
  ·rcases hown b hb with q | ⟨id, g, sz, n, e, f, base, q0, q1, q2⟩
   ·exact hM0.lt b q
   ·exact Nat.lt_of_lt_of_le (hM.lt b ⟨id, g, sz, n, e, f, base, q1, q2⟩) hF.size
  ·intro i j gi szi ni ei fi gj szj nj ej fj b o o' hi hj hmi hmj
   have cross : ∀ (i' : Nat) (o1 : AObj) (g sz n : Nat) (e : TypeId) (f : Nat → List PV) (oo : Nat) (id g2 sz2 n2 : Nat) (e2 : TypeId) (f2 : Nat → List PV) (oo2 : Nat), h0[i']? = some (AObj.row g sz n e f) → μ0 i' = some (b, oo) → (∀ j, j < h0.length → σ j ≠ id) → h[id]? = some (AObj.row g2 sz2 n2 e2 f2) → μ id = some (b, oo2) → False :=
    fun i' o1 g sz n e f oo id g2 sz2 n2 e2 f2 oo2 a1 a2 a3 a4 a5 => by
     rcases hF.own b ⟨i', g, sz, n, e, f, oo, a1, a2⟩ with r | r
     ·exact apart id _ _ _ _ _ _ _ a3 a4 a5 r
     ·have := hM.lt b ⟨id, g2, sz2, n2, e2, f2, oo2, a4, a5⟩; omega
   rcases inv i _ hi with ⟨i0, oi, rfl, r1, r2, r3⟩ | ⟨r1, r2, r3⟩
   ·rw [r3] at hmi
    cases oi with
    | dead => cases r2
    | row g0 sz0 n0 e0 f0 =>
     rcases inv j _ hj with ⟨j0, oj, rfl, t1, t2, t3⟩ | ⟨t1, t2, t3⟩
     ·rw [t3] at hmj
      cases oj with
      | dead => cases t2
      | row g2 sz2 n2 e2 f2 => rw [hM0.inj i0 j0 _ _ _ _ _ _ _ _ _ _ _ _ _ r1 t1 hmi hmj]
     ·rw [t3] at hmj
      exact (cross i0 AObj.dead _ _ _ _ _ _ _ _ _ _ _ _ _ r1 hmi t1 t2 hmj).elim
   ·rw [r3] at hmi
    rcases inv j _ hj with ⟨j0, oj, rfl, t1, t2, t3⟩ | ⟨t1, t2, t3⟩
    ·rw [t3] at hmj
     cases oj with
     | dead => cases t2
     | row g2 sz2 n2 e2 f2 => exact (cross j0 AObj.dead _ _ _ _ _ _ _ _ _ _ _ _ _ t1 hmj r1 r2 hmi).elim
    ·rw [t3] at hmj
     exact hM.inj i j _ _ _ _ _ _ _ _ _ _ _ _ _ r2 t2 hmi hmj
def sigma (is : List Nat) (N : Nat) (j : Nat) : Nat := match is[j]? with
 | some id => id
 | none => N + (j - is.length)
def putSel (h : List AObj) : List Nat → List AObj → List AObj
 | id :: r, o :: l => putSel (h.set id o) r l
 | _, _ => h
def nxtL (h : List AObj) (is : List Nat) (h0 : List AObj) : List AObj :=
 putSel h is (h0.map (renO (sigma is h.length))) ++ (h0.drop is.length).map (renO (sigma is h.length))
theorem putSel_length : ∀ (is : List Nat) (l h : List AObj), (putSel h is l).length = h.length
 | [], [], _ => rfl
 | [], _ :: _, _ => rfl
 | _ :: _, [], _ => rfl
 | id :: r, o :: l, h => by simp only [putSel]; rw [putSel_length r l]; simp
theorem putSel_old : ∀ (is : List Nat) (l h : List AObj) (id : Nat), id ∉ is → (putSel h is l)[id]? = h[id]?
 | [], [], _, _, _ => rfl
 | [], _ :: _, _, _, _ => rfl
 | _ :: _, [], _, _, _ => rfl
 | i :: r, o :: l, h, id, hn => by
  simp only [List.mem_cons, not_or] at hn
  simp only [putSel]
  rw [putSel_old r l _ id hn.2, List.getElem?_set_ne (Ne.symm hn.1)]
theorem putSel_sel : ∀ (is : List Nat) (l h : List AObj) (j id : Nat) (o : AObj), is.Nodup → is[j]? = some id → l[j]? = some o → id < h.length → (putSel h is l)[id]? = some o
 | [], _, _, _, _, _, _, h1, _, _ => by simp at h1
 | _ :: _, [], _, _, _, _, _, _, h2, _ => by simp at h2
 | i :: r, o' :: l, h, j, id, o, hd, h1, h2, hlt => by
  simp only [List.nodup_cons] at hd
  simp only [putSel]
  cases j with
  | zero =>
   simp at h1 h2
   subst h1 h2
   rw [putSel_old r l _ _ hd.1]
   simp [hlt]
  | succ j =>
   exact putSel_sel r l _ j id o hd.2 (by simpa using h1) (by simpa using h2) (by simpa using hlt)
theorem sel_ok (is : List Nat) (h : List AObj) (hd : is.Nodup) (hlt : ∀ id ∈ is, id < h.length) : Sel (sigma is h.length) is.length h where
 lt j hj := by
  unfold sigma
  rw [List.getElem?_eq_getElem hj]
  exact hlt _ (List.getElem_mem hj)
 new j hj := by
  unfold sigma
  rw [List.getElem?_eq_none hj]
 inj i j hi hj he := by
  unfold sigma at he
  rw [List.getElem?_eq_getElem hi, List.getElem?_eq_getElem hj] at he
  exact (List.getElem_inj hd).1 he
theorem after_ok (is : List Nat) (h h0 : List AObj) (hd : is.Nodup) (hlt : ∀ id ∈ is, id < h.length) (hle : is.length ≤ h0.length) : After (sigma is h.length) h h0 (nxtL h is h0) where
 len := by unfold nxtL; rw [List.length_append, putSel_length]; omega
 old id hn := by
  unfold nxtL
  rcases Nat.lt_or_ge id h.length with h1 | h1
  ·rw [List.getElem?_append_left (by rw [putSel_length]; exact h1), putSel_old]
   intro hm
   obtain ⟨j, hj, rfl⟩ := List.mem_iff_getElem.1 hm
   refine hn j (by omega) ?_
   unfold sigma
   rw [List.getElem?_eq_getElem hj]
  ·rw [List.getElem?_append_right (by rw [putSel_length]; exact h1), putSel_length, List.getElem?_eq_none h1, List.getElem?_eq_none]
   simp only [List.length_map, List.length_drop]
   rcases Nat.lt_or_ge (id - h.length) (h0.length - is.length) with h2 | h2
   ·refine (hn (is.length + (id - h.length)) (by omega) ?_).elim
    unfold sigma
    rw [List.getElem?_eq_none (by omega)]
    simp
    omega
   ·exact h2
 sel j o hj := by
  have hj0 := (List.getElem?_eq_some_iff.1 hj).1
  unfold nxtL
  rcases Nat.lt_or_ge j is.length with h1 | h1
  ·have hs : sigma is h.length j = is[j] := by unfold sigma; rw [List.getElem?_eq_getElem h1]
   have hl := hlt _ (List.getElem_mem h1)
   rw [hs, List.getElem?_append_left (by rw [putSel_length]; exact hl)]
   exact putSel_sel is _ h j _ _ hd (List.getElem?_eq_getElem h1) (by rw [List.getElem?_map, hj]; rfl) hl
  ·have hs : sigma is h.length j = h.length + (j - is.length) := by unfold sigma; rw [List.getElem?_eq_none h1]
   rw [hs, List.getElem?_append_right (by rw [putSel_length]; omega), putSel_length, List.getElem?_map, List.getElem?_drop]
   rw [show is.length + (h.length + (j - is.length) - h.length) = j from by omega, hj]
   rfl
theorem ACall.over {f : FuncId} {args args0 : List PV} {R : PV → List AObj → Prop} (hA : ACall P f args hc R) (is : List Nat) (h : List AObj) (hl : hc.length = is.length) (hd : is.Nodup) (hlt : ∀ id ∈ is, id < h.length)
  (hobj : ∀ j o, hc[j]? = some o → h[sigma is h.length j]? = some (renO (sigma is h.length) o)) (hargs : args0 = args.map (renA (sigma is h.length))) :
  ACall P f args0 h (fun res h' => ∃ r0 h0, R r0 h0 ∧ res = renV (sigma is h.length) r0 ∧ h' = nxtL h is h0) :=
 hA.sel h (by rw [hl]; exact sel_ok is h hd hlt) hobj hargs (nxtL h is) (fun h0 hle => after_ok is h h0 hd hlt (by omega))
end
end Go.Am
