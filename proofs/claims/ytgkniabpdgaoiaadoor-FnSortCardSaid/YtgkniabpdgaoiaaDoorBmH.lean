/- Rows that agree up to their length may stand for each other. -/
import Derived.Test.YtgkniabpdgaoiaaDoorBm4
set_option linter.unusedVariables false
set_option linter.unusedSimpArgs false
namespace Go.Am
open Go Go.RowKit
theorem CLe.refl : ∀ (l : List PV), CLe l l
 | [] => trivial
 | a :: l => ⟨.same a, CLe.refl l⟩
theorem CLe.len : ∀ {l r : List PV}, CLe l r → r.length = l.length
 | [], [], _ => rfl
 | a :: l, b :: r, h => by simp [CLe.len h.2]
 | [], _ :: _, h => h.elim
 | _ :: _, [], h => h.elim
theorem CLe.get : ∀ {l r : List PV}, CLe l r → ∀ {j : Nat} {b : PV}, r[j]? = some b → ∃ a, l[j]? = some a ∧ Le1 a b
 | [], [], _, j, b, hj => by simp at hj
 | a :: l, c :: r, h, 0, b, hj => by simp at hj; subst hj; exact ⟨a, rfl, h.1⟩
 | a :: l, c :: r, h, j + 1, b, hj => by
  obtain ⟨x, q1, q2⟩ := CLe.get h.2 (j := j) (by simpa using hj)
  exact ⟨x, by simpa using q1, q2⟩
 | [], _ :: _, h, _, _, _ => h.elim
 | _ :: _, [], h, _, _, _ => h.elim
theorem Le1.crep {a b : PV} (h : Le1 a b) {μ : Mu} {l : List AObj} {S : Nat → Prop} {w : World} {v : Value} (hr : CRep μ l S w a v) : CRep μ l S w b v := by
 cases h with
 | same => exact hr
 | nil sz f =>
  have hr : PRep S w .nils v := hr
  cases hr
  exact PRep.slc0 _ _ _ _
def OEq : AObj → AObj → Prop
 | .row g sz n e f, .row g' sz' n' e' f' => g = g' ∧ sz = sz' ∧ n = n' ∧ e = e' ∧ ∀ i, i < n → CLe (f i) (f' i)
 | .dead, .dead => True
 | _, _ => False
def HEq' : List AObj → List AObj → Prop
 | [], [] => True
 | o :: l, o' :: l' => OEq o o' ∧ HEq' l l'
 | _, _ => False
theorem HEq'.len : ∀ {l l' : List AObj}, HEq' l l' → l.length = l'.length
 | [], [], _ => rfl
 | o :: l, o' :: l', h => by simp [HEq'.len h.2]
 | [], _ :: _, h => h.elim
 | _ :: _, [], h => h.elim
theorem HEq'.get : ∀ {l l' : List AObj}, HEq' l l' → ∀ {j : Nat} {g sz n : Nat} {e : TypeId} {f : Nat → List PV}, l[j]? = some (AObj.row g sz n e f) → ∃ f', l'[j]? = some (AObj.row g sz n e f') ∧ ∀ i, i < n → CLe (f i) (f' i)
 | o :: l, o' :: l', h, 0, g, sz, n, e, f, hj => by
  simp at hj
  subst hj
  cases o' with
  | dead => exact h.1.elim
  | row g' sz' n' e' f' =>
   obtain ⟨rfl, rfl, rfl, rfl, hf⟩ := h.1
   exact ⟨f', rfl, hf⟩
 | o :: l, o' :: l', h, j + 1, g, sz, n, e, f, hj => by
  simp at hj
  obtain ⟨f', h1, h2⟩ := HEq'.get h.2 hj
  exact ⟨f', by simpa using h1, h2⟩
 | [], [], _, _, _, _, _, _, _, hj => by simp at hj
 | [], _ :: _, h, _, _, _, _, _, _, _ => h.elim
 | _ :: _, [], h, _, _, _, _, _, _, _ => h.elim
theorem HEq'.getR : ∀ {l l' : List AObj}, HEq' l l' → ∀ {j : Nat} {g sz n : Nat} {e : TypeId} {f' : Nat → List PV}, l'[j]? = some (AObj.row g sz n e f') → ∃ f, l[j]? = some (AObj.row g sz n e f) ∧ ∀ i, i < n → CLe (f i) (f' i)
 | o :: l, o' :: l', h, 0, g, sz, n, e, f', hj => by
  simp at hj
  subst hj
  cases o with
  | dead => exact h.1.elim
  | row g' sz' n' e' f =>
   obtain ⟨rfl, rfl, rfl, rfl, hf⟩ := h.1
   exact ⟨f, rfl, hf⟩
 | o :: l, o' :: l', h, j + 1, g, sz, n, e, f', hj => by
  simp at hj
  obtain ⟨f, h1, h2⟩ := HEq'.getR h.2 hj
  exact ⟨f, by simpa using h1, h2⟩
 | [], [], _, _, _, _, _, _, _, hj => by simp at hj
 | [], _ :: _, h, _, _, _, _, _, _, _ => h.elim
 | _ :: _, [], h, _, _, _, _, _, _, _ => h.elim
theorem HEq'.getD : ∀ {l l' : List AObj}, HEq' l l' → ∀ {j : Nat}, l[j]? = some AObj.dead → l'[j]? = some AObj.dead
 | o :: l, o' :: l', h, 0, hj => by
  simp at hj
  subst hj
  cases o' with
  | dead => rfl
  | row g' sz' n' e' f' => exact h.1.elim
 | o :: l, o' :: l', h, j + 1, hj => by
  simp at hj
  simpa using HEq'.getD h.2 hj
 | [], [], _, _, hj => by simp at hj
 | [], _ :: _, h, _, _ => h.elim
 | _ :: _, [], h, _, _ => h.elim
theorem HEq'.owned {l l' : List AObj} (h : HEq' l l') {μ : Mu} {b : Nat} (ho : Owned μ l b) : Owned μ l' b := by
 obtain ⟨id, g, sz, n, e, f, base, h1, h2⟩ := ho
 obtain ⟨f', h3, _⟩ := h.get h1
 exact ⟨id, g, sz, n, e, f', base, h3, h2⟩
theorem HEq'.ownedR {l l' : List AObj} (h : HEq' l l') {μ : Mu} {b : Nat} (ho : Owned μ l' b) : Owned μ l b := by
 obtain ⟨id, g, sz, n, e, f, base, h1, h2⟩ := ho
 obtain ⟨f', h3, _⟩ := h.getR h1
 exact ⟨id, g, sz, n, e, f', base, h3, h2⟩
theorem HEq'.own {l l' : List AObj} (h : HEq' l l') {μ : Mu} {w : World} {id gen off len : Nat} {v : Value} (hr : OwnRep μ l w id gen off len v) : OwnRep μ l' w id gen off len v := by
 unfold OwnRep at *
 refine ⟨hr.1, ?_⟩
 have hr := hr.2
 cases ho : l[id]? with
 | none => rw [ho] at hr; exact hr.elim
 | some o =>
  cases o with
  | dead => rw [h.getD ho]; trivial
  | row g sz n e f =>
   obtain ⟨f', h1, _⟩ := h.get ho
   rw [ho] at hr
   rw [h1]
   exact hr
theorem HEq'.optr {l l' : List AObj} (h : HEq' l l') {μ : Mu} {id gen i off : Nat} {v : Value} {w : World} (hr : OptrRep μ l w id gen i off v) : OptrRep μ l' w id gen i off v := by
 unfold OptrRep at *
 refine ⟨hr.1, ?_⟩
 have hr := hr.2
 cases ho : l[id]? with
 | none => rw [ho] at hr; exact hr.elim
 | some o =>
  cases o with
  | dead => rw [h.getD ho]; trivial
  | row g sz n e f =>
   obtain ⟨f', h1, _⟩ := h.get ho
   rw [ho] at hr
   rw [h1]
   exact hr
theorem Le1.scal {a b : PV} (h : Le1 a b) (ha : scalA a = true) : b = a := by
 cases h with
 | same => rfl
 | _ => cases ha
theorem CLe.scal {kp vp : PV} {l : List PV} (h : CLe [kp, vp] l) (h1 : scalA kp = true) (h2 : scalA vp = true) : l = [kp, vp] := by
 rcases l with _ | ⟨a, _ | ⟨b, _ | ⟨c, l⟩⟩⟩
 ·exact h.elim
 ·exact h.2.elim
 ·rw [h.1.scal h1, h.2.1.scal h2]
 ·exact h.2.2.elim
theorem HEq'.omp {l l' : List AObj} (h : HEq' l l') {μ : Mu} {w : World} {id : Nat} {v : Value} (hr : OmpRep μ l w id v) : OmpRep μ l' w id v := by
 unfold OmpRep at *
 refine ⟨hr.1, ?_⟩
 have hr := hr.2
 cases ho : l[id]? with
 | none => rw [ho] at hr; exact hr.elim
 | some o =>
  cases o with
  | dead => rw [h.getD ho]; trivial
  | row g sz n e f =>
   obtain ⟨f', h1, _⟩ := h.get ho
   rw [ho] at hr
   rw [h1]
   exact hr
theorem HEq'.clo {l l' : List AObj} (h : HEq' l l') {μ : Mu} {w : World} {f : Nat} {caps : List (Nat × Nat)} {v : Value} (hr : CloRep μ l w f caps v) : CloRep μ l' w f caps v := CloP.mono hr (fun id g u hu => h.optr hu)
theorem HEq'.crep {l l' : List AObj} (h : HEq' l l') {μ : Mu} {S : Nat → Prop} {w : World} {pv : PV} {v : Value} (hr : CRep μ l S w pv v) : CRep μ l' S w pv v := by
 cases pv with
 | own id gen off len => exact h.own hr
 | optr id gen i off => exact h.optr hr
 | omp id => exact h.omp hr
 | clo f caps => exact h.clo hr
 | _ => exact hr
theorem HEq'.arep {l l' : List AObj} (h : HEq' l l') {μ : Mu} {S : Nat → Prop} {w : World} {pv : PV} {v : Value} (hr : ARep μ l S w pv v) : ARep μ l' S w pv v := by
 cases pv with
 | own id gen off len => exact h.own hr
 | optr id gen i off => exact h.optr hr
 | omp id => exact h.omp hr
 | clo f caps => exact h.clo hr
 | agg cs =>
  obtain ⟨vs, h1, h2, h3⟩ := hr
  exact ⟨vs, h1, h2, fun j pv hj => by obtain ⟨u, hu, hc⟩ := h3 j pv hj; exact ⟨u, hu, h.crep hc⟩⟩
 | _ => exact hr
theorem HEq'.refl : ∀ (l : List AObj), HEq' l l
 | [] => trivial
 | .row g sz n e f :: l => ⟨⟨rfl, rfl, rfl, rfl, fun _ _ => CLe.refl _⟩, HEq'.refl l⟩
 | .dead :: l => ⟨trivial, HEq'.refl l⟩
theorem HEq'.set : ∀ (l : List AObj) (id g sz n : Nat) (e : TypeId) (f f' : Nat → List PV), (∀ i, i < n → CLe (f i) (f' i)) → HEq' (l.set id (.row g sz n e f)) (l.set id (.row g sz n e f'))
 | [], _, _, _, _, _, _, _, _ => trivial
 | o :: l, 0, g, sz, n, e, f, f', hf => ⟨⟨rfl, rfl, rfl, rfl, hf⟩, HEq'.refl l⟩
 | o :: l, id + 1, g, sz, n, e, f, f', hf => ⟨by cases o; exact ⟨rfl, rfl, rfl, rfl, fun _ _ => CLe.refl _⟩; exact trivial, HEq'.set l id g sz n e f f' hf⟩
theorem HEq'.snoc : ∀ (l : List AObj) (g sz n : Nat) (e : TypeId) (f f' : Nat → List PV), (∀ i, i < n → CLe (f i) (f' i)) → HEq' (l ++ [.row g sz n e f]) (l ++ [.row g sz n e f'])
 | [], g, sz, n, e, f, f', hf => ⟨⟨rfl, rfl, rfl, rfl, hf⟩, trivial⟩
 | o :: l, g, sz, n, e, f, f', hf => ⟨by cases o; exact ⟨rfl, rfl, rfl, rfl, fun _ _ => CLe.refl _⟩; exact trivial, HEq'.snoc l g sz n e f f' hf⟩
theorem HEq'.vrep {l l' : List AObj} (h : HEq' l l') {μ : Mu} {S : Nat → Prop} {w : World} {pv : PV} {v : Value} (hr : VRep μ l S w pv v) : VRep μ l' S w pv v := by
 cases pv with
 | tup ps =>
  obtain ⟨vs, h1, h2, h3⟩ := hr
  exact ⟨vs, h1, h2, fun j pv hj => by obtain ⟨u, hu, hc⟩ := h3 j pv hj; exact ⟨u, hu, h.arep hc⟩⟩
 | own id gen off len => exact h.own hr
 | optr id gen i off => exact h.optr hr
 | omp id => exact h.omp hr
 | clo f caps => exact h.clo hr
 | agg cs => exact h.arep (pv := .agg cs) hr
 | _ => exact hr
theorem HEq'.core {l l' : List AObj} (he : HEq' l l') {μ : Mu} {S : Nat → Prop} {w : World} (hc : Core μ l S w) : Core μ l' S w := by
 refine ⟨fun id g sz n e f hid => ?_, ⟨fun b hb => hc.ok.apart b (he.ownedR hb), fun b hb => hc.ok.lt b (he.ownedR hb), hc.ok.slt, fun i j g sz n e f g' sz' n' e' f' b o o' hi hj h1 h3 => ?_, hc.ok.known⟩⟩
 ·obtain ⟨f', h1, h3⟩ := he.getR hid
  obtain ⟨q1, q2⟩ := hc.heap id g sz n e f' h1
  refine ⟨fun i hi => by rw [(h3 i hi).len]; exact q1 i hi, ?_⟩
  cases hm : μ id with
  | none => rw [hm] at q2; exact q2
  | some p =>
   obtain ⟨b, base⟩ := p
   rw [hm] at q2
   obtain ⟨o, r1, r2⟩ := q2
   refine ⟨o, r1, ?_⟩
   cases o with
   | cells cur e' z =>
    obtain ⟨r2, r3, r4, r5⟩ := r2
    refine ⟨r2, r3, r4, fun i j pv hi hj => ?_⟩
    obtain ⟨a, ha, hle⟩ := (h3 i hi).get hj
    obtain ⟨v, hv, hcc⟩ := r5 i j a hi ha
    exact ⟨v, hv, he.crep (hle.crep hcc)⟩
   | map es c =>
    obtain ⟨r2, r3⟩ := r2
    refine ⟨r2, fun i hi => ?_⟩
    obtain ⟨kp, vp, en, s1, s2, s3, s4⟩ := r3 i hi
    have hle := h3 i hi
    rw [s1] at hle
    exact ⟨kp, vp, en, hle.scal s2 s3, s2, s3, s4⟩
   | _ => exact r2.elim
 ·obtain ⟨fi, q1, _⟩ := he.getR hi
  obtain ⟨fj, q2, _⟩ := he.getR hj
  exact hc.ok.inj i j g sz n e fi g' sz' n' e' fj b o o' q1 q2 h1 h3
theorem HEq'.fr {l l' : List AObj} (he : HEq' l l') {μ0 μ : Mu} {h0 : List AObj} {S0 S : Nat → Prop} {w0 w : World} (hF : Fr μ0 h0 S0 w0 μ l S w) : Fr μ0 h0 S0 w0 μ l' S w := by
 refine ⟨by rw [← he.len]; exact hF.len, hF.blocks, hF.sub, hF.new, fun b hb => hF.own b (he.ownedR hb), hF.size, hF.os, hF.tape, hF.output, fun id g sz n e f hid => ?_, fun id hid => he.getD (hF.dead id hid), hF.caps, fun id g sz n e f b base hj hm hmb => ?_⟩
 rotate_left
 ·obtain ⟨r1, r2⟩ := hF.maps id g sz n e f b base hj hm hmb
  refine ⟨r1, ?_⟩
  rcases r2 with r2 | ⟨⟨g', sz', n', e', f', r2⟩, r3⟩
  ·exact .inl (he.getD r2)
  ·obtain ⟨f2, h1, _⟩ := he.get r2
   exact .inr ⟨⟨_, _, _, _, _, h1⟩, r3⟩
 have hg := hF.gens id g sz n e f hid
 cases ho : l[id]? with
 | none => rw [ho] at hg; exact hg.elim
 | some o =>
  cases o with
  | dead => rw [he.getD ho]; trivial
  | row g' sz' n' e' f' =>
   obtain ⟨f2, h1, _⟩ := he.get ho
   rw [ho] at hg
   rw [h1]
   exact hg
end Go.Am
