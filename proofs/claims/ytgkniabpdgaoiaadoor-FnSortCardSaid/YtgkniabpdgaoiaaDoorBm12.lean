/- Contracts over larger heaps; the table of types, checked; small lemmas for the prover. -/
import Derived.Test.YtgkniabpdgaoiaaDoorBm11
set_option linter.unusedVariables false
set_option linter.unusedSimpArgs false
namespace Go.Am
open Go Go.RowKit
def shift1 (N : Nat) : PV → PV
 | .own id gen off len => .own (N + id) gen off len
 | .optr id gen i off => .optr (N + id) gen i off
 | .omp id => .omp (N + id)
 | .clo f caps => .clo f (capMap (N + ·) caps)
 | v => v
def shiftA (N : Nat) : PV → PV
 | .agg cs => .agg (cs.map (shift1 N))
 | v => shift1 N v
def shiftV (N : Nat) : PV → PV
 | .tup vs => .tup (vs.map (shiftA N))
 | v => shiftA N v
def shiftO (N : Nat) : AObj → AObj
 | .row g sz n e f => .row g sz n e (fun i => (f i).map (shift1 N))
 | .dead => .dead
def pureA : PV → Bool
 | .agg cs => cs.all isPure
 | v => isPure v
def flat1 : PV → Bool
 | .slc _ _ _ => false
 | .pptr _ => false
 | _ => true
def flatA : PV → Bool
 | .agg cs => cs.all flat1
 | v => flat1 v
def flatV : PV → Bool
 | .tup vs => vs.all flatA
 | v => flatA v
def flatO : AObj → Prop
 | .row _ _ n _ f => ∀ i, i < n → (f i).all flat1 = true
 | .dead => True
section
variable {P : Program} {T : Tab} {μ μ0 : Mu} {h h0 : List AObj} {S S0 S' : Nat → Prop} {w w' : World}
def muJoin (μ : Mu) (N : Nat) (μ0 : Mu) : Mu := fun id => if id < N then μ id else μ0 (id - N)
theorem shift1_scal {N : Nat} {a : PV} (h : scalA a = true) : shift1 N a = a := by cases a <;> first | rfl | cases h
theorem join_get_new (N : Nat) (hN : h.length = N) (id : Nat) : (h ++ h0.map (shiftO N))[N + id]? = (h0[id]?).map (shiftO N) := by
 subst hN
 rw [List.getElem?_append_right (by omega), Nat.add_sub_cancel_left, List.getElem?_map]
theorem muJoin_new (N id : Nat) : muJoin μ N μ0 (N + id) = μ0 id := by
 unfold muJoin
 rw [if_neg (by omega), Nat.add_sub_cancel_left]
theorem crep_shift (G : PV → Prop) (hG : ∀ pv v, G pv → PRep S0 w' pv v → PRep S' w' pv v) {pv : PV} {v : Value} (hg : G pv) (hc : CRep μ0 h0 S0 w' pv v) :
  CRep (muJoin μ h.length μ0) (h ++ h0.map (shiftO h.length)) S' w' (shift1 h.length pv) v := by
 have hoptr : ∀ (id gen i off : Nat) (v : Value), OptrRep μ0 h0 w' id gen i off v → OptrRep (muJoin μ h.length μ0) (h ++ h0.map (shiftO h.length)) w' (h.length + id) gen i off v := fun id gen i off v hc => by
  unfold OptrRep at hc ⊢
  rw [join_get_new _ rfl, muJoin_new]
  obtain ⟨h1, h2⟩ := hc
  refine ⟨h1, ?_⟩
  cases ho : h0[id]? with
  | none => rw [ho] at h2; exact h2
  | some o =>
   rw [ho] at h2
   cases o with
   | dead => trivial
   | row g sz n e f => exact h2
 cases pv with
 | own id gen off len =>
  have hc : OwnRep μ0 h0 w' id gen off len v := hc
  show OwnRep _ _ _ (h.length + id) gen off len v
  unfold OwnRep at hc ⊢
  rw [join_get_new _ rfl, muJoin_new]
  obtain ⟨h1, h2⟩ := hc
  refine ⟨h1, ?_⟩
  cases ho : h0[id]? with
  | none => rw [ho] at h2; exact h2
  | some o =>
   rw [ho] at h2
   cases o with
   | dead => trivial
   | row g sz n e f => exact h2
 | optr id gen i off => exact hoptr _ _ _ _ _ hc
 | clo f caps => exact CloP.map (O := fun id g u => OptrRep (muJoin μ h.length μ0) (h ++ h0.map (shiftO h.length)) w' id g 0 0 u) (CloP.mono (show CloRep μ0 h0 w' f caps v from hc) (fun id g u hu => hoptr id g 0 0 u hu))
 | omp id =>
  have hc : OmpRep μ0 h0 w' id v := hc
  show OmpRep _ _ _ (h.length + id) v
  unfold OmpRep at hc ⊢
  rw [join_get_new _ rfl, muJoin_new]
  obtain ⟨h1, h2⟩ := hc
  refine ⟨h1, ?_⟩
  cases ho : h0[id]? with
  | none => rw [ho] at h2; exact h2
  | some o =>
   rw [ho] at h2
   cases o with
   | dead => trivial
   | row g sz n e f => exact h2
 | junk => exact hc
 | agg cs => exact (show False from hc).elim
 | tup cs => exact (show False from hc).elim
 | int k n => exact hG _ _ hg hc
 | bool b => exact hG _ _ hg hc
 | str s => exact hG _ _ hg hc
 | nils => exact hG _ _ hg hc
 | slc sz n f => exact hG _ _ hg hc
 | pptr cs => exact hG _ _ hg hc
 | fn f => exact hG _ _ hg hc
theorem arep_shift (G : PV → Prop) (hG : ∀ pv v, G pv → PRep S0 w' pv v → PRep S' w' pv v) {pv : PV} {v : Value} (hg : match pv with | .agg cs => ∀ c ∈ cs, G c | v => G v) (hc : ARep μ0 h0 S0 w' pv v) :
  ARep (muJoin μ h.length μ0) (h ++ h0.map (shiftO h.length)) S' w' (shiftA h.length pv) v := by
 cases pv with
 | agg cs =>
  obtain ⟨vs, h1, h2, h3⟩ := hc
  refine ⟨vs, h1, by simpa using h2, fun j pv hj => ?_⟩
  rw [List.getElem?_map] at hj
  cases hx : cs[j]? with
  | none => rw [hx] at hj; cases hj
  | some c =>
   rw [hx] at hj
   injection hj with hj
   subst hj
   obtain ⟨u, q1, q2⟩ := h3 j c hx
   exact ⟨u, q1, crep_shift G hG (hg c (List.mem_of_getElem? hx)) q2⟩
 | junk => trivial
 | tup cs => exact (show False from hc).elim
 | own id gen off len => exact crep_shift (μ := μ) (μ0 := μ0) (h := h) (h0 := h0) (pv := .own id gen off len) G hG hg hc
 | optr id gen i off => exact crep_shift (μ := μ) (μ0 := μ0) (h := h) (h0 := h0) (pv := .optr id gen i off) G hG hg hc
 | omp id => exact crep_shift (μ := μ) (μ0 := μ0) (h := h) (h0 := h0) (pv := .omp id) G hG hg hc
 | clo f caps => exact crep_shift (μ := μ) (μ0 := μ0) (h := h) (h0 := h0) (pv := .clo f caps) G hG hg hc
 | int k n => exact crep_shift (μ := μ) (μ0 := μ0) (h := h) (h0 := h0) (pv := .int k n) G hG hg hc
 | bool b => exact crep_shift (μ := μ) (μ0 := μ0) (h := h) (h0 := h0) (pv := .bool b) G hG hg hc
 | str s => exact crep_shift (μ := μ) (μ0 := μ0) (h := h) (h0 := h0) (pv := .str s) G hG hg hc
 | nils => exact crep_shift (μ := μ) (μ0 := μ0) (h := h) (h0 := h0) (pv := .nils) G hG hg hc
 | slc sz n f => exact crep_shift (μ := μ) (μ0 := μ0) (h := h) (h0 := h0) (pv := .slc sz n f) G hG hg hc
 | pptr cs => exact crep_shift (μ := μ) (μ0 := μ0) (h := h) (h0 := h0) (pv := .pptr cs) G hG hg hc
 | fn f => exact crep_shift (μ := μ) (μ0 := μ0) (h := h) (h0 := h0) (pv := .fn f) G hG hg hc
def AllG (G : PV → Prop) : PV → Prop
 | .tup vs => ∀ v ∈ vs, (match v with | .agg cs => ∀ c ∈ cs, G c | v => G v)
 | .agg cs => ∀ c ∈ cs, G c
 | v => G v
theorem vrep_shift (G : PV → Prop) (hG : ∀ pv v, G pv → PRep S0 w' pv v → PRep S' w' pv v) {pv : PV} {v : Value} (hg : AllG G pv) (hc : VRep μ0 h0 S0 w' pv v) :
  VRep (muJoin μ h.length μ0) (h ++ h0.map (shiftO h.length)) S' w' (shiftV h.length pv) v := by
 cases pv with
 | tup cs =>
  obtain ⟨vs, h1, h2, h3⟩ := hc
  refine ⟨vs, h1, by simpa using h2, fun j pv hj => ?_⟩
  rw [List.getElem?_map] at hj
  cases hx : cs[j]? with
  | none => rw [hx] at hj; cases hj
  | some c =>
   rw [hx] at hj
   injection hj with hj
   subst hj
   obtain ⟨u, q1, q2⟩ := h3 j c hx
   exact ⟨u, q1, arep_shift G hG (hg c (List.mem_of_getElem? hx)) q2⟩
 | agg cs => exact arep_shift (μ := μ) (μ0 := μ0) (h := h) (h0 := h0) (pv := .agg cs) G hG hg hc
 | junk => trivial
 | own id gen off len => exact arep_shift (μ := μ) (μ0 := μ0) (h := h) (h0 := h0) (pv := .own id gen off len) G hG hg hc
 | optr id gen i off => exact arep_shift (μ := μ) (μ0 := μ0) (h := h) (h0 := h0) (pv := .optr id gen i off) G hG hg hc
 | omp id => exact arep_shift (μ := μ) (μ0 := μ0) (h := h) (h0 := h0) (pv := .omp id) G hG hg hc
 | clo f caps => exact arep_shift (μ := μ) (μ0 := μ0) (h := h) (h0 := h0) (pv := .clo f caps) G hG hg hc
 | int k n => exact arep_shift (μ := μ) (μ0 := μ0) (h := h) (h0 := h0) (pv := .int k n) G hG hg hc
 | bool b => exact arep_shift (μ := μ) (μ0 := μ0) (h := h) (h0 := h0) (pv := .bool b) G hG hg hc
 | str s => exact arep_shift (μ := μ) (μ0 := μ0) (h := h) (h0 := h0) (pv := .str s) G hG hg hc
 | nils => exact arep_shift (μ := μ) (μ0 := μ0) (h := h) (h0 := h0) (pv := .nils) G hG hg hc
 | slc sz n f => exact arep_shift (μ := μ) (μ0 := μ0) (h := h) (h0 := h0) (pv := .slc sz n f) G hG hg hc
 | pptr cs => exact arep_shift (μ := μ) (μ0 := μ0) (h := h) (h0 := h0) (pv := .pptr cs) G hG hg hc
 | fn f => exact arep_shift (μ := μ) (μ0 := μ0) (h := h) (h0 := h0) (pv := .fn f) G hG hg hc
theorem join_core (hH : HeapRep μ h S w) (hM : MuOk μ h S w) {μc : Mu} {Sc : Nat → Prop} (hF : Fr μc [] Sc w μ0 h0 S0 w') (hH0 : HeapRep μ0 h0 S0 w') (hM0 : MuOk μ0 h0 S0 w')
  (G : PV → Prop) (hG : ∀ pv v, G pv → PRep S0 w' pv v → PRep S' w' pv v) (hrows : ∀ (id g sz n : Nat) (e : TypeId) (f : Nat → List PV), h0[id]? = some (AObj.row g sz n e f) → ∀ i, i < n → ∀ c ∈ f i, G c)
  (hS1 : ∀ b, S b → S' b) (hS2 : ∀ b, S' b → S b ∨ w.heap.size ≤ b) (hS3 : ∀ b, S' b → b < w'.heap.size) (hS4 : ∀ b, S' b → ¬ Owned μ0 h0 b) :
  HeapRep (muJoin μ h.length μ0) (h ++ h0.map (shiftO h.length)) S' w' ∧ MuOk (muJoin μ h.length μ0) (h ++ h0.map (shiftO h.length)) S' w' ∧ Fr μ h S w (muJoin μ h.length μ0) (h ++ h0.map (shiftO h.length)) S' w' := by
 have hno : ∀ b, ¬ Owned μc [] b := fun b ⟨id, g, sz, n, e, f, base, h1, _⟩ => by simp at h1
 have hsame : ∀ b, b < w.heap.size → w'.heap[b]? = w.heap[b]? := fun b hb => hF.blocks b hb (hno b)
 have hnew : ∀ b, Owned μ0 h0 b → w.heap.size ≤ b := fun b hb => (hF.own b hb).resolve_left (hno b)
 have get_old : ∀ id o, h[id]? = some o → (h ++ h0.map (shiftO h.length))[id]? = some o ∧ muJoin μ h.length μ0 id = μ id := fun id o hid => by
  have hlt := (List.getElem?_eq_some_iff.1 hid).1
  exact ⟨by rw [List.getElem?_append_left hlt]; exact hid, by unfold muJoin; rw [if_pos hlt]⟩
 have inv : ∀ (id g sz n : Nat) (e : TypeId) (f : Nat → List PV), (h ++ h0.map (shiftO h.length))[id]? = some (AObj.row g sz n e f) →
   (h[id]? = some (AObj.row g sz n e f) ∧ muJoin μ h.length μ0 id = μ id) ∨ ∃ id0 f0, id = h.length + id0 ∧ h0[id0]? = some (AObj.row g sz n e f0) ∧ muJoin μ h.length μ0 id = μ0 id0 ∧ f = fun i => (f0 i).map (shift1 h.length) := fun id g sz n e f hid => by
  rcases Nat.lt_or_ge id h.length with hlt | hge
  ·rw [List.getElem?_append_left hlt] at hid
   exact .inl ⟨hid, by unfold muJoin; rw [if_pos hlt]⟩
  ·obtain ⟨id0, rfl⟩ : ∃ id0, id = h.length + id0 := ⟨id - h.length, by omega⟩
   rw [join_get_new _ rfl] at hid
   cases ho : h0[id0]? with
   | none => rw [ho] at hid; cases hid
   | some o =>
    rw [ho] at hid
    cases o with
    | dead => cases hid
    | row g0 sz0 n0 e0 f0 =>
     injection hid with hid
     injection hid with e1 e2 e3 e4 e5
     subst e1 e2 e3 e4 e5
     exact .inr ⟨id0, f0, rfl, ho, muJoin_new _ _, rfl⟩
 have hown : ∀ b, Owned (muJoin μ h.length μ0) (h ++ h0.map (shiftO h.length)) b → Owned μ h b ∨ Owned μ0 h0 b := fun b ⟨id, g, sz, n, e, f, base, hid, hm⟩ => by
  rcases inv id g sz n e f hid with ⟨h1, h2⟩ | ⟨id0, f0, rfl, h1, h2, _⟩
  ·rw [h2] at hm; exact .inl ⟨id, g, sz, n, e, f, base, h1, hm⟩
  ·rw [h2] at hm; exact .inr ⟨id0, g, sz, n, e, f0, base, h1, hm⟩
 have hfr : Fr μ h S w (muJoin μ h.length μ0) (h ++ h0.map (shiftO h.length)) S' w' := by
  refine ⟨by simp, fun b hb _ => hsame b hb, hS1, fun b hb => (hS2 b hb).imp id .inr, fun b hb => (hown b hb).imp id (hnew b), hF.size, hF.os, hF.tape, hF.output, fun id g sz n e f hid => ?_, fun id hid => (get_old id _ hid).1, fun b k hb hc => CapOk.of_same (hsame b hc.lt) hc, fun id g sz n e f b base hid hm hmb => ⟨let ⟨es, c, q⟩ := hmb; ⟨es, c, (hsame b (Array.getElem?_eq_some_iff.1 q).1).trans q⟩, .inr ⟨⟨_, _, _, _, _, (get_old id _ hid).1⟩, (get_old id _ hid).2.trans hm⟩⟩⟩
  obtain ⟨h1, h2⟩ := get_old id _ hid
  rw [h1]
  exact ⟨Nat.le_refl _, fun _ => ⟨h2, rfl, rfl, rfl⟩⟩
 refine ⟨fun id g sz n e f hid => ?_, ⟨fun b hb hs => ?_, fun b hb => ?_, hS3, ?_, hM.amb_fr hfr⟩, hfr⟩
 ·rcases inv id g sz n e f hid with ⟨h1, h2⟩ | ⟨id0, f0, rfl, h1, h2, rfl⟩
  ·obtain ⟨q1, q2⟩ := hH id g sz n e f h1
   refine ⟨q1, ?_⟩
   rw [h2]
   cases hm : μ id with
   | none => rw [hm] at q2; exact q2
   | some p =>
    obtain ⟨b, base⟩ := p
    rw [hm] at q2
    obtain ⟨o, r1, r2⟩ := q2
    have hlt : b < w.heap.size := (Array.getElem?_eq_some_iff.1 r1).1
    exact ⟨o, (hsame b hlt).trans r1, r2.mono (fun _ _ _ _ _ _ hr => hr.fr hfr hM)⟩
  ·obtain ⟨q1, q2⟩ := hH0 id0 g sz n e f0 h1
   refine ⟨fun i hi => by simpa using q1 i hi, ?_⟩
   rw [h2]
   cases hm : μ0 id0 with
   | none => rw [hm] at q2; exact q2
   | some p =>
    obtain ⟨b, base⟩ := p
    rw [hm] at q2
    obtain ⟨o, r1, r2⟩ := q2
    refine ⟨o, r1, ?_⟩
    cases o with
    | cells cur e' z =>
     obtain ⟨x1, x2, x3, r3⟩ := r2
     refine ⟨x1, x2, x3, fun i j pv hi hj => ?_⟩
     rw [List.getElem?_map] at hj
     cases hx : (f0 i)[j]? with
     | none => rw [hx] at hj; cases hj
     | some c =>
      rw [hx] at hj
      injection hj with hj
      subst hj
      obtain ⟨v, s1, s2⟩ := r3 i j c hi hx
      exact ⟨v, s1, crep_shift G hG (hrows id0 g sz n e f0 h1 i hi c (List.mem_of_getElem? hx)) s2⟩
    | map es c =>
     obtain ⟨x1, r3⟩ := r2
     refine ⟨x1, fun i hi => ?_⟩
     obtain ⟨kp, vp, en, y1, y2, y3, y4⟩ := r3 i hi
     exact ⟨kp, vp, en, by show (f0 i).map (shift1 h.length) = _; rw [y1]; show [shift1 h.length kp, shift1 h.length vp] = _; rw [shift1_scal y2, shift1_scal y3], y2, y3, y4⟩
    | _ => exact r2.elim
 ·rcases hown b hb with h1 | h1
  ·rcases hS2 b hs with h2 | h2
   ·exact hM.apart b h1 h2
   ·have := hM.lt b h1; omega
  ·exact hS4 b hs h1
 ·rcases hown b hb with h1 | h1
  ·exact Nat.lt_of_lt_of_le (hM.lt b h1) hF.size
  ·exact hM0.lt b h1
 ·intro i j gi szi ni ei fi gj szj nj ej fj b o o' hi hj hmi hmj
  rcases inv i _ _ _ _ _ hi with ⟨h1, h2⟩ | ⟨id0, f0, rfl, h1, h2, _⟩
  ·rw [h2] at hmi
   rcases inv j _ _ _ _ _ hj with ⟨h3, h4⟩ | ⟨id1, f1, rfl, h3, h4, _⟩
   ·rw [h4] at hmj; exact hM.inj i j _ _ _ _ _ _ _ _ _ _ _ _ _ h1 h3 hmi hmj
   ·rw [h4] at hmj
    have a1 := hM.lt b ⟨i, _, _, _, _, _, _, h1, hmi⟩
    have a2 := hnew b ⟨id1, _, _, _, _, _, _, h3, hmj⟩
    omega
  ·rw [h2] at hmi
   rcases inv j _ _ _ _ _ hj with ⟨h3, h4⟩ | ⟨id1, f1, rfl, h3, h4, _⟩
   ·rw [h4] at hmj
    have a1 := hM.lt b ⟨j, _, _, _, _, _, _, h3, hmj⟩
    have a2 := hnew b ⟨id0, _, _, _, _, _, _, h1, hmi⟩
    omega
   ·rw [h4] at hmj
    have := hM0.inj id0 id1 _ _ _ _ _ _ _ _ _ _ _ _ _ h1 h3 hmi hmj
    rw [this]
theorem ACall.frame {f : FuncId} {args : List PV} {R : PV → List AObj → Prop} (hA : ACall P f args [] R) (h : List AObj) (hp : args.all pureA = true) :
  ACall P f args h (fun res h' => ∃ r0 h0, R r0 h0 ∧ res = shiftV h.length r0 ∧ h' = h ++ h0.map (shiftO h.length)) := by
 refine ⟨hA.1, fun w vs μ S hH hM hsz ha => ?_⟩
 refine (hA.2 w vs (fun _ => none) S (fun id g sz n e f hid => by simp at hid) ⟨fun b ⟨id, g, sz, n, e, f, base, h1, _⟩ => by simp at h1, fun b ⟨id, g, sz, n, e, f, base, h1, _⟩ => by simp at h1, hM.slt, fun i j g sz n e f g' sz' n' e' f' b o o' hi => by simp at hi, hM.known⟩ hsz (fun j pv hj => ?_)).mono ?_
 ·obtain ⟨v, h1, h2⟩ := ha j pv hj
  refine ⟨v, h1, ?_⟩
  have hpj := (List.all_eq_true.1 hp) pv (List.mem_of_getElem? hj)
  cases pv with
  | agg cs =>
   obtain ⟨us, q1, q2, q3⟩ := h2
   refine ⟨us, q1, q2, fun i c hi => ?_⟩
   obtain ⟨u, r1, r2⟩ := q3 i c hi
   have hc := (List.all_eq_true.1 hpj) c (List.mem_of_getElem? hi)
   exact ⟨u, r1, CRep.of_pure (crep_pure hc r2)⟩
  | tup cs => cases hpj
  | own id gen off len => cases hpj
  | optr id gen i off => cases hpj
  | omp id => cases hpj
  | clo f caps => cases hpj
  | junk => cases hpj
  | int k n => exact h2
  | bool b => exact h2
  | str s => exact h2
  | nils => exact h2
  | slc sz n f => exact h2
  | pptr cs => exact h2
  | fn f => exact h2
 ·rintro e w' ⟨v, r0, h0, μ0, S0, he, hR, hv, hH0, hM0, hF⟩
  have hno : ∀ b, ¬ Owned (fun _ => none) [] b := fun b ⟨id, g, sz, n, e, f, base, h1, _⟩ => by simp at h1
  obtain ⟨c1, c2, c3⟩ := join_core (S' := S0) hH hM hF hH0 hM0 (fun _ => True) (fun _ _ _ h => h) (fun _ _ _ _ _ _ _ _ _ _ _ => trivial) hF.sub
   (fun b hb => (hF.new b hb).imp id (fun h => h.resolve_left (hno b))) hM0.slt (fun b hb ho => hM0.apart b ho hb)
  have hall : AllG (fun _ => True) r0 := by
   unfold AllG
   split
   ·intro v _; split <;> intros <;> trivial
   ·intros; trivial
   ·trivial
  exact ⟨v, _, _, _, S0, he, ⟨r0, h0, hR, rfl, rfl⟩, vrep_shift _ (fun _ _ _ h => h) hall hv, c1, c2, c3⟩
theorem ACall.snap {f : FuncId} {args args' : List PV} {R : PV → List AObj → Prop} (hA : ACall P f args' [] R) (h : List AObj) (hl : args'.length = args.length)
  (hz : ∀ (j : Nat) (pv pv' : PV), args[j]? = some pv → args'[j]? = some pv' → Fz h [] [] pv pv' ∧ notTup pv' = true) (hflat : ∀ r0 h0, R r0 h0 → flatV r0 = true ∧ ∀ o ∈ h0, flatO o) :
  ACall P f args h (fun res h' => ∃ r0 h0, R r0 h0 ∧ res = shiftV h.length r0 ∧ h' = h ++ h0.map (shiftO h.length)) := by
 refine ⟨hA.1, fun w vs μ S hH hM hsz ha => ?_⟩
 have hfz : FzHeap h [] [] 0 0 [] [] := trivial
 obtain ⟨hco, _, _⟩ := fz_core (m := 0) ⟨hH, hM⟩ hfz rfl
 refine (hA.2 w vs (muFz μ h []) (sFz μ h [] S) hco.heap hco.ok (by omega) (fun j pv' hj => ?_)).mono ?_
 ·have hjl : j < args.length := by rw [← hl]; exact (List.getElem?_eq_some_iff.1 hj).1
  have hj0 := List.getElem?_eq_getElem hjl
  obtain ⟨v, h1, h2⟩ := ha j _ hj0
  obtain ⟨z1, z2⟩ := hz j _ pv' hj0 hj
  exact ⟨v, h1, (fz_sound (m := 0) ⟨hH, hM⟩ hfz z1).2.1 v h2⟩
 ·rintro e w' ⟨v, r0, h0, μ0, S0, he, hR, hv, hH0, hM0, hF⟩
  obtain ⟨hf1, hf2⟩ := hflat r0 h0 hR
  have hno : ∀ b, ¬ Owned (muFz μ h []) [] b := fun b ⟨id, g, sz, n, e, f, base, h1, _⟩ => by simp at h1
  have hG : ∀ pv v, flat1 pv = true → PRep S0 w' pv v → PRep S w' pv v := fun pv v hf hp => by
   cases hp with
   | int k n => exact .int k n
   | bool b => exact .bool b
   | str s => exact .str s
   | nils => exact .nils
   | fn f => exact .fn f
   | slc0 => cases hf
   | slc => cases hf
   | pptr => cases hf
  obtain ⟨c1, c2, c3⟩ := join_core (S' := S) hH hM hF hH0 hM0 (fun pv => flat1 pv = true) hG (fun id g sz n e f hid i hi c hc => by
    have := hf2 _ (List.mem_of_getElem? hid) i hi
    exact (List.all_eq_true.1 this) c hc) (fun _ hb => hb) (fun b hb => .inl hb) (fun b hb => Nat.lt_of_lt_of_le (hM.slt b hb) hF.size)
   (fun b hb ho => by
    have h1 := (hF.own b ho).resolve_left (hno b)
    have h2 := hM.slt b hb
    omega)
  have hall : AllG (fun pv => flat1 pv = true) r0 := by
   cases r0 with
   | tup vs =>
    intro v hv
    have := (List.all_eq_true.1 hf1) v hv
    cases v with
    | agg cs => exact fun c hc => (List.all_eq_true.1 this) c hc
    | _ => exact this
   | agg cs => exact fun c hc => (List.all_eq_true.1 hf1) c hc
   | _ => exact hf1
  exact ⟨v, _, _, _, S, he, ⟨r0, h0, hR, rfl, rfl⟩, vrep_shift _ hG hall hv, c1, c2, c3⟩
end
end Go.Am
