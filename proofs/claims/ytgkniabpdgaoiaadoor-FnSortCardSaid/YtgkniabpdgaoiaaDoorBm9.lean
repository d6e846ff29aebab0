/- A piece of code, and a function. -/
import Derived.Test.YtgkniabpdgaoiaaDoorBm8
import Derived.Deep.LoopGhost
set_option linter.unusedVariables false
set_option linter.unusedSimpArgs false
namespace Go.Am
open Go Go.RowKit
section
variable {P : Program} {T : Tab} {μ : Mu} {h η : List AObj} {k : List Nat} {S : Nat → Prop} {w : World} {m : Nat}
theorem fz_scal1 {a a' : PV} (hz : Fz h η k a a') (ha : scal1 a = true) : scal1 a' = true ∧ ∀ v, SRep1 a v → SRep1 a' v := by
 cases hz with
 | int k' n => exact ⟨rfl, fun _ h => h⟩
 | bool b => exact ⟨rfl, fun _ h => h⟩
 | str s => exact ⟨rfl, fun _ h => h⟩
 | junk _ => exact ⟨rfl, fun v h => by
   cases a <;> first | (cases ha; done) | (have h : v = _ := h; subst h; rfl) | exact h⟩
 | _ => cases ha
theorem fz_scal {a a' : PV} (hz : Fz h η k a a') (ha : scalA a = true) : scalA a' = true ∧ ∀ v, SRep a v → SRep a' v := by
 cases hz with
 | int k' n => exact ⟨rfl, fun _ h => h⟩
 | bool b => exact ⟨rfl, fun _ h => h⟩
 | str s => exact ⟨rfl, fun _ h => h⟩
 | junk _ => exact ⟨rfl, fun _ _ => trivial⟩
 | agg cs cs' hl hc =>
  have el : ∀ j pv', cs'[j]? = some pv' → ∃ pv, cs[j]? = some pv ∧ scal1 pv' = true ∧ ∀ v, SRep1 pv v → SRep1 pv' v := fun j pv' hj => by
   have hlt : j < cs.length := by rw [← hl]; exact (List.getElem?_eq_some_iff.1 hj).1
   have h1 := List.getElem?_eq_getElem hlt
   have h2 := fz_scal1 (hc j _ _ h1 hj) (List.all_eq_true.1 ha _ (List.getElem_mem hlt))
   exact ⟨_, h1, h2⟩
  refine ⟨List.all_eq_true.2 (fun x hx => ?_), fun v hv => ?_⟩
  ·obtain ⟨j, hj, rfl⟩ := List.mem_iff_getElem.1 hx
   obtain ⟨_, _, h2, _⟩ := el j _ (List.getElem?_eq_getElem hj)
   exact h2
  ·obtain ⟨vs, q1, q2, q3⟩ := hv
   refine ⟨vs, q1, q2.trans hl.symm, fun j pv' hj => ?_⟩
   obtain ⟨pv, e1, _, e2⟩ := el j pv' hj
   obtain ⟨u, hu, hr⟩ := q3 j pv e1
   exact ⟨u, hu, e2 u hr⟩
 | _ => cases ha
theorem memB_get : ∀ {l : List Nat} {x i : Nat}, l[i]? = some x → memB l x = true
 | [], x, i, h => by simp at h
 | a :: r, x, 0, h => by
  simp at h; subst h
  unfold memB
  rw [show Nat.beq a a = true from Nat.beq_refl a]
 | a :: r, x, i + 1, h => by
  unfold memB
  cases Nat.beq a x
  ·exact memB_get (by simpa using h)
  ·rfl
theorem liveK_get : ∀ {η : List AObj} {k : List Nat} {i id g sz n : Nat} {e : TypeId} {f : Nat → List PV}, η[i]? = some (AObj.row g sz n e f) → k[i]? = some id → ∃ j : Nat, (liveK η k)[j]? = some id
 | [], _, i, _, _, _, _, _, _, h, _ => by simp at h
 | _ :: _, [], i, _, _, _, _, _, _, _, h => by simp at h
 | .row _ _ _ _ _ :: r, a :: is, 0, id, _, _, _, _, _, _, h => by simp at h; subst h; exact ⟨0, rfl⟩
 | .dead :: r, a :: is, 0, id, _, _, _, _, _, h, _ => by simp at h
 | .row _ _ _ _ _ :: r, a :: is, i + 1, id, _, _, _, _, _, h1, h2 => by
  obtain ⟨j, hj⟩ := liveK_get (i := i) (by simpa using h1) (by simpa using h2)
  exact ⟨j + 1, by simpa [liveK] using hj⟩
 | .dead :: r, a :: is, i + 1, id, _, _, _, _, _, h1, h2 => by
  obtain ⟨j, hj⟩ := liveK_get (i := i) (by simpa using h1) (by simpa using h2)
  exact ⟨j, by simpa [liveK] using hj⟩
theorem liveK_inj : ∀ {η : List AObj} {k : List Nat} {i j id g sz n g' sz' n' : Nat} {e e' : TypeId} {f f' : Nat → List PV}, nodupB (liveK η k) = true → η[i]? = some (AObj.row g sz n e f) → k[i]? = some id → η[j]? = some (AObj.row g' sz' n' e' f') → k[j]? = some id → i = j
 | [], _, i, _, _, _, _, _, _, _, _, _, _, _, _, _, h, _, _, _ => by simp at h
 | _ :: _, [], i, _, _, _, _, _, _, _, _, _, _, _, _, _, _, h, _, _ => by simp at h
 | .row _ _ _ _ _ :: r, a :: is, 0, 0, _, _, _, _, _, _, _, _, _, _, _, _, _, _, _, _ => rfl
 | .row _ _ _ _ _ :: r, a :: is, 0, j + 1, id, _, _, _, _, _, _, _, _, _, _, hn, _, h2, h3, h4 => by
  simp at h2; subst h2
  obtain ⟨q, hq⟩ := liveK_get (η := r) (k := is) (i := j) (by simpa using h3) (by simpa using h4)
  unfold liveK nodupB at hn
  rw [memB_get hq] at hn; cases hn
 | .row _ _ _ _ _ :: r, a :: is, i + 1, 0, id, _, _, _, _, _, _, _, _, _, _, hn, h1, h2, _, h4 => by
  simp at h4; subst h4
  obtain ⟨q, hq⟩ := liveK_get (η := r) (k := is) (i := i) (by simpa using h1) (by simpa using h2)
  unfold liveK nodupB at hn
  rw [memB_get hq] at hn; cases hn
 | .row _ _ _ _ _ :: r, a :: is, i + 1, j + 1, id, _, _, _, _, _, _, _, _, _, _, hn, h1, h2, h3, h4 => by
  unfold liveK nodupB at hn
  cases hm : memB (liveK r is) a with
  | true => rw [hm] at hn; cases hn
  | false =>
   rw [hm] at hn
   rw [liveK_inj (η := r) (k := is) (i := i) (j := j) hn (by simpa using h1) (by simpa using h2) (by simpa using h3) (by simpa using h4)]
 | .dead :: r, a :: is, 0, _, _, _, _, _, _, _, _, _, _, _, _, _, h, _, _, _ => by simp at h
 | .dead :: r, a :: is, _ + 1, 0, _, _, _, _, _, _, _, _, _, _, _, _, _, _, h, _ => by simp at h
 | .dead :: r, a :: is, i + 1, j + 1, id, _, _, _, _, _, _, _, _, _, _, hn, h1, h2, h3, h4 => by
  rw [liveK_inj (η := r) (k := is) (i := i) (j := j) hn (by simpa using h1) (by simpa using h2) (by simpa using h3) (by simpa using h4)]
theorem fz_core (hc : Core μ h S w) (hh : FzHeap h η k m 0 η k) (hk : nodupB (liveK η k) = true) : Core (muFz μ h k) η (sFz μ h k S) w ∧ (∀ b, Owned (muFz μ h k) η b → Owned μ h b) ∧ ∀ b, sFz μ h k S b → S b ∨ Owned μ h b := by
 obtain ⟨hlen, hget⟩ := fzHeap_get η k 0 hh
 have back : ∀ (id' g' sz' n' : Nat) (e' : TypeId) (f' : Nat → List PV), η[id']? = some (AObj.row g' sz' n' e' f') → (n' = 0 ∧ muFz μ h k id' = none) ∨ ∃ (id g : Nat) (f : Nat → List PV), k[id']? = some id ∧ (∃ n, h[id]? = some (AObj.row g sz' n e' f) ∧ n' ≤ n ∧ (n' = n ∨ sz' ≠ 2)) ∧ muFz μ h k id' = μ id ∧
   ∀ i, i < n' → (f' i).length = (f i).length ∧ ∀ (j : Nat) (pv pv' : PV), (f i)[j]? = some pv → (f' i)[j]? = some pv' → Fz h η k pv pv' := fun id' g' sz' n' e' f' hη => by
  obtain ⟨id, r1, r2⟩ := hget id' _ hη
  unfold OFz at r2
  cases ho : h[id]? with
  | none => rw [ho] at r2; exact .inl ⟨r2.2, muFz_none r1 ho⟩
  | some o =>
   cases o with
   | dead => rw [ho] at r2; exact r2.elim
   | row g sz n e f =>
    rw [ho] at r2
    obtain ⟨_, rfl, r4, rfl, r3⟩ := r2
    refine .inr ⟨id, g, f, r1, ⟨n, ho, ?_⟩, muFz_at r1 ho, fun i hi => FzL.get _ _ (r3 i hi)⟩
    rcases r4 with rfl | ⟨_, r5, r6⟩
    ·exact ⟨Nat.le_refl _, .inl rfl⟩
    ·exact ⟨r6, .inr r5⟩
 have hown : ∀ b, Owned (muFz μ h k) η b → Owned μ h b := fun b hb => by
  obtain ⟨id', g', sz', n', e', f', base, hη, hm⟩ := hb
  rcases back id' g' sz' n' e' f' hη with ⟨_, q3⟩ | ⟨id, g, f, q1, ⟨n, q2, _⟩, q3, _⟩
  ·rw [q3] at hm; cases hm
  ·rw [q3] at hm
   exact ⟨id, g, sz', n, e', f, base, q2, hm⟩
 have hs : ∀ b, sFz μ h k S b → S b ∨ Owned μ h b := fun b hb => by
  rcases hb with hb | ⟨id, g, sz, n, e, f, base, _, h1, h2⟩
  ·exact .inl hb
  ·exact .inr ⟨id, g, sz, n, e, f, base, h1, h2⟩
 refine ⟨⟨fun id' g' sz' n' e' f' hη => ?_, ?_⟩, hown, hs⟩
 ·rcases back id' g' sz' n' e' f' hη with ⟨rfl, q3⟩ | ⟨id, g, f, q1, ⟨n, q2, hle, hor⟩, q3, q4⟩
  ·exact ⟨fun i hi => absurd hi (Nat.not_lt_zero _), by rw [q3]⟩
  obtain ⟨r1, r2⟩ := hc.heap id g sz' n e' f q2
  refine ⟨fun i hi => (q4 i hi).1.trans (r1 i (Nat.lt_of_lt_of_le hi hle)), ?_⟩
  rw [q3]
  cases hm : μ id with
  | none => rw [hm] at r2; have r2 : n = 0 := r2; show n' = 0; omega
  | some p =>
   obtain ⟨b, base⟩ := p
   rw [hm] at r2
   obtain ⟨o, s1, s2⟩ := r2
   refine ⟨o, s1, ?_⟩
   cases o with
   | cells cur e2 z =>
    obtain ⟨x1, x2, x3, s3⟩ := s2
    refine ⟨x1, x2, Nat.le_trans (Nat.add_le_add_left (Nat.mul_le_mul_right _ hle) _) x3, fun i j pv' hi hj => ?_⟩
    have hjl : j < (f i).length := by rw [← (q4 i hi).1]; exact (List.getElem?_eq_some_iff.1 hj).1
    have hj0 := List.getElem?_eq_getElem hjl
    obtain ⟨u, t1, t2⟩ := s3 i j _ (Nat.lt_of_lt_of_le hi hle) hj0
    exact ⟨u, t1, (fz_sound hc hh ((q4 i hi).2 j _ pv' hj0 hj)).1 u t2⟩
   | map es c =>
    obtain ⟨x1, s3⟩ := s2
    have hn : n' = n := by
     rcases hor with h0 | h0
     ·exact h0
     ·rcases Nat.eq_zero_or_pos n with h1 | h1
      ·omega
      ·obtain ⟨kp, vp, en, y1, _⟩ := s3 0 h1
       have := r1 0 h1
       rw [y1] at this
       exact absurd this.symm h0
    subst hn
    refine ⟨x1, fun i hi => ?_⟩
    obtain ⟨kp, vp, en, y1, y2, y3, y4, y5, y6⟩ := s3 i hi
    obtain ⟨z1, z2⟩ := q4 i hi
    rw [y1] at z1 z2
    generalize hf' : f' i = l' at z1 z2 ⊢
    rcases l' with _ | ⟨kp', _ | ⟨vp', _ | ⟨c3, l3⟩⟩⟩ <;> simp at z1
    have w1 := fz_scal (z2 0 kp kp' rfl rfl) y2
    have w2 := fz_scal (z2 1 vp vp' rfl rfl) y3
    exact ⟨kp', vp', en, rfl, w1.1, w2.1, y4, w1.2 _ y5, w2.2 _ y6⟩
   | _ => exact s2.elim
 ·refine ⟨fun b hb hsb => ?_, fun b hb => hc.ok.lt b (hown b hb), fun b hb => ?_, ?_, hc.ok.known.keep (fun _ _ => rfl) (fun _ hb => .inl hb)⟩
  ·rcases hsb with hsb | ⟨id2, g2, sz2, n2, e2, f2, base2, hnk, h1, h2⟩
   ·exact hc.ok.apart b (hown b hb) hsb
   ·obtain ⟨id', g', sz', n', e', f', base, hη, hm⟩ := hb
    rcases back id' g' sz' n' e' f' hη with ⟨_, q3⟩ | ⟨id, g, f, q1, ⟨nn, q2, _⟩, q3, _⟩
    ·rw [q3] at hm; cases hm
    rw [q3] at hm
    have := hc.ok.inj id id2 _ _ _ _ _ _ _ _ _ _ _ _ _ q2 h1 hm h2
    subst this
    exact hnk (List.mem_of_getElem? q1)
  ·rcases hs b hb with h1 | h1
   ·exact hc.ok.slt b h1
   ·exact hc.ok.lt b h1
  ·intro i j gi szi ni ei fi gj szj nj ej fj b o o' hi hj hmi hmj
   rcases back i gi szi ni ei fi hi with ⟨_, q3⟩ | ⟨id1, g1, f1, q1, ⟨nn1, q2, _⟩, q3, _⟩
   ·rw [q3] at hmi; cases hmi
   rcases back j gj szj nj ej fj hj with ⟨_, r3⟩ | ⟨id2, g2, f2, r1, ⟨nn2, r2, _⟩, r3, _⟩
   ·rw [r3] at hmj; cases hmj
   rw [q3] at hmi
   rw [r3] at hmj
   have := hc.ok.inj id1 id2 _ _ _ _ _ _ _ _ _ _ _ _ _ q2 r2 hmi hmj
   subst this
   exact liveK_inj hk hi q1 hj r1
structure Start where
 μ : Mu
 h : List AObj
 S : Nat → Prop
 w : World
 nt : Nat
theorem fz_fr {C : Start} (hc : Core μ h S w) (hf : Fr C.μ C.h C.S C.w μ h S w) (hh : FzHeap h η k C.h.length 0 η k) (hk : nodupB (liveK η k) = true) (hm : C.h.length ≤ k.length) :
  Fr C.μ C.h C.S C.w (muFz μ h k) η (sFz μ h k S) w := by
 obtain ⟨hlen, hget⟩ := fzHeap_get η k 0 hh
 obtain ⟨_, hown, hs⟩ := fz_core hc hh hk
 have idx : ∀ id, id < C.h.length → ∃ o id', η[id]? = some o ∧ k[id]? = some id' ∧ OFz h η k C.h.length o id id' := fun id hid => by
  have hlt : id < η.length := by omega
  obtain ⟨id', r1, r2⟩ := hget id _ (List.getElem?_eq_getElem hlt)
  rw [Nat.zero_add] at r2
  exact ⟨_, id', List.getElem?_eq_getElem hlt, r1, r2⟩
 refine ⟨by omega, hf.blocks, fun b hb => .inl (hf.sub b hb), fun b hb => ?_, fun b hb => hf.own b (hown b hb), hf.size, hf.os, hf.tape, hf.output, fun id g0 sz0 n0 e0 f0 h0 => ?_, fun id h0 => ?_, hf.caps, fun id g0 sz0 n0 e0 f0 b base h0 hm0 hmb => ?_⟩
 rotate_right
 ·have hid : id < C.h.length := (List.getElem?_eq_some_iff.1 h0).1
  obtain ⟨o, id', q1, q2, q3⟩ := idx id hid
  obtain ⟨r1, r2⟩ := hf.maps id g0 sz0 n0 e0 f0 b base h0 hm0 hmb
  refine ⟨r1, ?_⟩
  rw [q1]
  unfold OFz at q3
  cases o with
  | dead => exact .inl rfl
  | row g' sz' n' e' f' =>
   cases ho : h[id']? with
   | none => rw [ho] at q3; exact absurd q3.1 (by omega)
   | some o2 =>
    cases o2 with
    | dead => rw [ho] at q3; exact q3.elim
    | row g sz n e f =>
     rw [ho] at q3
     obtain ⟨s1, rfl, s2, rfl, _⟩ := q3
     obtain ⟨rfl, rfl⟩ := s1 hid
     obtain rfl := s2.resolve_right (fun hx => absurd hx.1 (by omega))
     rw [ho] at r2
     rcases r2 with r2 | ⟨_, r3⟩
     ·cases r2
     ·exact .inr ⟨⟨_, _, _, _, _, rfl⟩, (muFz_at q2 ho).trans r3⟩
 ·rcases hs b hb with h1 | h1
  ·exact hf.new b h1
  ·rcases hf.own b h1 with h2 | h2
   ·exact .inr (.inl h2)
   ·exact .inr (.inr h2)
 ·have hid : id < C.h.length := (List.getElem?_eq_some_iff.1 h0).1
  obtain ⟨o, id', q1, q2, q3⟩ := idx id hid
  have hg := hf.gens id g0 sz0 n0 e0 f0 h0
  rw [q1]
  unfold OFz at q3
  cases o with
  | dead => trivial
  | row g' sz' n' e' f' =>
   cases ho : h[id']? with
   | none => rw [ho] at q3; exact absurd q3.1 (by omega)
   | some o2 =>
    cases o2 with
    | dead => rw [ho] at q3; exact q3.elim
    | row g sz n e f =>
     rw [ho] at q3
     obtain ⟨r1, rfl, r2, rfl, _⟩ := q3
     obtain ⟨rfl, rfl⟩ := r1 hid
     obtain rfl := r2.resolve_right (fun hx => absurd hx.1 (by omega))
     rw [ho] at hg
     refine ⟨hg.1, fun he => ?_⟩
     obtain ⟨s1, s2, s3, s4⟩ := hg.2 he
     exact ⟨by rw [muFz_at q2 ho]; exact s1, s2, s3, s4⟩
 ·have hid : id < C.h.length := (List.getElem?_eq_some_iff.1 h0).1
  obtain ⟨o, id', q1, q2, q3⟩ := idx id hid
  have hd := hf.dead id h0
  rw [q1]
  unfold OFz at q3
  cases o with
  | dead => rfl
  | row g' sz' n' e' f' =>
   cases ho : h[id']? with
   | none => rw [ho] at q3; exact absurd q3.1 (by omega)
   | some o2 =>
    cases o2 with
    | dead => rw [ho] at q3; exact q3.elim
    | row g sz n e f =>
     rw [ho] at q3
     obtain ⟨rfl, rfl⟩ := q3.1 hid
     rw [ho] at hd
     cases hd
structure Sim (C : Start) (μ : Mu) (h : List AObj) (S : Nat → Prop) (env : Env) (a : Act) (w : World) : Prop where
 core : Core μ h S w
 fr : Fr C.μ C.h C.S C.w μ h S w
 tmps : ∀ t, VRep μ h S w (env t) (a.tmps.getD t undef)
 size : a.tmps.size = C.nt
 far : ∀ t, C.nt ≤ t → env t = .junk
 defers : a.defers = []
variable {C : Start} {env : Env} {a : Act}
theorem upd_same (env : Env) (t : Nat) (v : PV) : upd env t v t = v := by simp [upd]
theorem upd_ne (env : Env) {t j : Nat} (v : PV) (hj : j ≠ t) : upd env t v j = env j := by
 unfold upd
 have : Nat.beq j t = false := by
  cases hb : Nat.beq j t with
  | true => exact (hj (Nat.eq_of_beq_eq_true hb)).elim
  | false => rfl
 rw [this]; rfl
def dstOk (nt : Nat) (o : Oper) : Bool := match o.dst with | some t => Nat.blt t nt | none => true
theorem Sim.put (hs : Sim C μ h S env a w) {μ' : Mu} {h' : List AObj} {S' : Nat → Prop} {w' : World} (hf : Fr μ h S w μ' h' S' w') (hc : Core μ' h' S' w') {dst : Option Nat} {v : PV} {val : Value} (hv : VRep μ' h' S' w' v val)
  (hd : ∀ t, dst = some t → t < C.nt) : Sim C μ' h' S' (updO env dst v) (a.put dst val) w' := by
 refine ⟨hc, hs.fr.trans hf, fun t => ?_, ?_, fun t ht => ?_, ?_⟩
 ·cases dst with
  | none => exact (hs.tmps t).fr hf hs.core.ok
  | some d =>
   have hdl := hd d rfl
   by_cases htd : t = d
   ·subst htd
    show VRep μ' h' S' w' (upd env t v t) _
    rw [upd_same]
    have : ((a.put (some t) val).tmps).getD t undef = val := by
     have hlt : t < a.tmps.size := by rw [hs.size]; exact hdl
     simp [Act.put, hlt]
    rw [this]; exact hv
   ·show VRep μ' h' S' w' (upd env d v t) _
    rw [upd_ne env v htd]
    have : ((a.put (some d) val).tmps).getD t undef = a.tmps.getD t undef := by
     simp [Act.put, Array.getElem?_setIfInBounds_ne (Ne.symm htd)]
    rw [this]; exact (hs.tmps t).fr hf hs.core.ok
 ·cases dst with
  | none => exact hs.size
  | some d => simp [Act.put, hs.size]
 ·cases dst with
  | none => exact hs.far t ht
  | some d =>
   have hdl := hd d rfl
   show upd env d v t = _
   rw [upd_ne env v (by omega)]
   exact hs.far t ht
 ·cases dst with
  | none => exact hs.defers
  | some d => exact hs.defers
theorem Sim.upd_bool (hs : Sim C μ h S env a w) {t : Nat} {b : Bool} (he : env t = .bool b) : Sim C μ h S (upd env t (.bool b)) a w := by
 have : upd env t (.bool b) = env := by
  funext j
  by_cases hj : j = t
  ·subst hj; rw [upd_same, he]
  ·rw [upd_ne env _ hj]
 rw [this]; exact hs
def Lift (C : Start) (Q : XQ) : Exit → Act → World → Prop := fun e a w => ∃ μ h S env, Sim C μ h S env a w ∧ Q e env h
theorem yielded_of (hs : Sim C μ h S env a w) {ops : Array Oper} {j t : Nat} {b : Bool} (hj : (ops.toList[j]?).bind (·.dst) = some t) (he : env t = .bool b) : yielded ops a.tmps j = some b := by
 have hv := hs.tmps t
 rw [he] at hv
 have hv := hv.bool_inv
 have hlt : t < a.tmps.size := by
  rcases Nat.lt_or_ge t a.tmps.size with h1 | h1
  ·exact h1
  ·rw [hs.far t (by rw [← hs.size]; exact h1)] at he; cases he
 unfold yielded
 rw [Array.getElem?_toList] at hj
 rw [hj]
 simp only [Option.bind_some]
 have : a.tmps[t]? = some (.bool b) := by
  rw [Array.getElem?_eq_getElem hlt]
  simp [hlt] at hv
  rw [hv]
 rw [this]
theorem vrep_undef : VRep μ h S w (.tup []) undef := ⟨#[], rfl, rfl, fun j pv hj => by simp at hj⟩
theorem yielded_none (hs : Sim C μ h S env a w) {ops : Array Oper} {j t : Nat} (hj : (ops.toList[j]?).bind (·.dst) = some t) (he : env t = .tup []) : yielded ops a.tmps j = none := by
 have hv := hs.tmps t
 rw [he] at hv
 obtain ⟨vs, hv, _⟩ := hv
 unfold yielded
 rw [Array.getElem?_toList] at hj
 rw [hj]
 simp only [Option.bind_some]
 rcases Nat.lt_or_ge t a.tmps.size with h1 | h1
 ·have : a.tmps[t]? = some (.tuple vs) := by
   rw [Array.getElem?_eq_getElem h1]
   simp [h1] at hv
   rw [hv]
  rw [this]
 ·rw [Array.getElem?_eq_none h1]
theorem pops_guard {K : Env → List AObj → Prop} (all : List Oper) (o : Oper) (rest : List Oper) (env : Env) (h : List AObj) {j : Nat} {want : Bool} (hg : o.guard = some (j, want)) :
  pops P T all K (o :: rest) env h = (match (all[j]?).bind (·.dst) with
     | some t => match env t with
      | .bool b => splitB b
        (match (generalizing := false) want with
         | true => pop P T o.op (upd env t (.bool true)) h (fun v h' => pops P T all K rest (updO (upd env t (.bool true)) o.dst v) h')
         | false => pops P T all K rest (updO (upd env t (.bool true)) o.dst (.tup [])) h)
        (match (generalizing := false) want with
         | true => pops P T all K rest (updO (upd env t (.bool false)) o.dst (.tup [])) h
         | false => pop P T o.op (upd env t (.bool false)) h (fun v h' => pops P T all K rest (updO (upd env t (.bool false)) o.dst v) h'))
      | .tup [] => pops P T all K rest (updO env o.dst (.tup [])) h
      | _ => False
     | none => False) := by
 obtain ⟨dst, op, ty, pos, after, guard⟩ := o
 have hg : guard = some (j, want) := hg
 rw [hg]
 rfl
theorem pops_sound (hT : TabOk P T) (ops : Array Oper) {K : Env → List AObj → Prop} {Q : Exit → Act → World → Prop} (hK : ∀ env h a w μ S, K env h → Sim C μ h S env a w → Q .normal a w) :
  ∀ (l : List Oper) (env : Env) (h : List AObj) (a : Act) (w : World) (μ : Mu) (S : Nat → Prop), pops P T ops.toList K l env h → (∀ o ∈ l, dstOk C.nt o = true) → Sim C μ h S env a w → wpList P ops Q l a w
 | [], env, h, a, w, μ, S, hp, _, hs => hK env h a w μ S hp hs
 | o :: rest, env, h, a, w, μ, S, hp, hd, hs => by
  have hdo : ∀ t, o.dst = some t → t < C.nt := fun t ht => by
   have := hd o (by simp)
   unfold dstOk at this
   rw [ht] at this
   simpa using this
  have hdr : ∀ o ∈ rest, dstOk C.nt o = true := fun o ho => hd o (by simp [ho])
  have run : ∀ env', Sim C μ h S env' a w → pop P T o.op env' h (fun v h' => pops P T ops.toList K rest (updO env' o.dst v) h') → o.wp P a w (wpList P ops Q rest) Q := fun env' hs' hp' => by
   obtain ⟨dst, op, ty, pos, after, guard⟩ := o
   refine pop_sound (env := env') hT hs'.core hs'.tmps hp' _ _ fun v val h' μ' S' w' hK' hv hc hf => ?_
   exact pops_sound hT ops hK rest _ h' _ w' μ' S' hK' hdr (hs'.put hf hc hv hdo)
  have skip : ∀ env', Sim C μ h S env' a w → pops P T ops.toList K rest (updO env' o.dst (.tup [])) h → wpList P ops Q rest (a.put o.dst undef) w := fun env' hs' hp' =>
   pops_sound hT ops hK rest _ h _ w μ S hp' hdr (hs'.put Fr.refl hs'.core vrep_undef hdo)
  unfold wpList
  cases hg : o.guard with
  | none =>
   have hp : pop P T o.op env h (fun v h' => pops P T ops.toList K rest (updO env o.dst v) h') := by
    obtain ⟨dst, op, ty, pos, after, guard⟩ := o
    subst hg
    exact hp
   rw [if_pos (by simp [Region.wanted, hg])]
   exact .inl (run env hs hp)
  | some p =>
   obtain ⟨j, want⟩ := p
   rw [pops_guard ops.toList o rest env h hg] at hp
   split at hp
   ·rename_i t hj
    split at hp
    ·rename_i b he
     have hy := yielded_of hs hj he
     obtain ⟨ht, hf⟩ := splitB_elim hp
     have hs' := hs.upd_bool he
     cases b with
     | true =>
      have hp := ht rfl
      cases want with
      | true => rw [if_pos (by simp [Region.wanted, hg, hy])]; exact .inl (run _ hs' hp)
      | false => rw [if_neg (by simp [Region.wanted, hg, hy])]; exact skip _ hs' hp
     | false =>
      have hp := hf rfl
      cases want with
      | true => rw [if_neg (by simp [Region.wanted, hg, hy])]; exact skip _ hs' hp
      | false => rw [if_pos (by simp [Region.wanted, hg, hy])]; exact .inl (run _ hs' hp)
    ·rename_i he
     rw [if_neg (by simp [Region.wanted, hg, yielded_none hs hj he])]
     exact skip _ hs hp
    ·exact hp.elim
   ·exact hp.elim
end
end Go.Am
