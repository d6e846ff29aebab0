/- Forgetting, renaming, freezing. -/
import Derived.Test.YtgkniabpdgaoiaaDoorBm7
set_option linter.unusedVariables false
set_option linter.unusedSimpArgs false
namespace Go.Am
open Go Go.RowKit
section
variable {P : Program} {T : Tab} {μ : Mu} {h η : List AObj} {k : List Nat} {S : Nat → Prop} {w : World} {m : Nat}
theorem FzL.get : ∀ (l r : List PV), FzL h η k l r → r.length = l.length ∧ ∀ (j : Nat) (pv pv' : PV), l[j]? = some pv → r[j]? = some pv' → Fz h η k pv pv'
 | [], [], _ => ⟨rfl, fun j pv pv' hj => by simp at hj⟩
 | [], _ :: _, hh => hh.elim
 | _ :: _, [], hh => hh.elim
 | a :: l, b :: r, hh => by
  obtain ⟨h1, h2⟩ := hh
  obtain ⟨q1, q2⟩ := FzL.get l r h2
  refine ⟨by simp [q1], fun j pv pv' hj hj' => ?_⟩
  cases j with
  | zero =>
   simp at hj hj'
   subst hj hj'
   exact h1
  | succ j => exact q2 j pv pv' (by simpa using hj) (by simpa using hj')
theorem fzHeap_get : ∀ (l : List AObj) (r : List Nat) (i : Nat), FzHeap h η k m i l r → l.length = r.length ∧ ∀ (j : Nat) (o : AObj), l[j]? = some o → ∃ id, r[j]? = some id ∧ OFz h η k m o (i + j) id
 | [], [], i, _ => ⟨rfl, fun j o hj => by simp at hj⟩
 | [], _ :: _, _, hh => hh.elim
 | _ :: _, [], _, hh => hh.elim
 | o :: l, id :: r, i, hh => by
  obtain ⟨h1, h2⟩ := hh
  obtain ⟨q1, q2⟩ := fzHeap_get l r (i + 1) h2
  refine ⟨by simp [q1], fun j o' hj => ?_⟩
  cases j with
  | zero =>
   simp at hj
   subst hj
   exact ⟨id, rfl, h1⟩
  | succ j =>
   simp at hj
   obtain ⟨id', r1, r2⟩ := q2 j o' hj
   exact ⟨id', by simpa using r1, by rw [show i + (j + 1) = i + 1 + j from by omega]; exact r2⟩
def muFz (μ : Mu) (h : List AObj) (k : List Nat) : Mu := fun id' => match k[id']? with | some id => (match h[id]? with | some _ => μ id | none => none) | none => none
theorem muFz_at {μ : Mu} {h : List AObj} {k : List Nat} {id id' : Nat} {o : AObj} (hk : k[id']? = some id) (ho : h[id]? = some o) : muFz μ h k id' = μ id := by unfold muFz; rw [hk]; simp only [ho]
theorem muFz_none {μ : Mu} {h : List AObj} {k : List Nat} {id id' : Nat} (hk : k[id']? = some id) (ho : h[id]? = none) : muFz μ h k id' = none := by unfold muFz; rw [hk]; simp only [ho]
def sFz (μ : Mu) (h : List AObj) (k : List Nat) (S : Nat → Prop) : Nat → Prop :=
 fun b => S b ∨ ∃ (id g sz n : Nat) (e : TypeId) (f : Nat → List PV) (base : Nat), id ∉ k ∧ h[id]? = some (AObj.row g sz n e f) ∧ μ id = some (b, base)
theorem crep_pure {μ' : Mu} {h' : List AObj} {S' : Nat → Prop} {pv : PV} {v : Value} (hp : isPure pv = true) (hc : CRep μ' h' S' w pv v) : PRep S' w pv v := by
 cases pv <;> first | exact hc | cases hp
theorem fz_sound (hc : Core μ h S w) (hh : FzHeap h η k m 0 η k) {pv pv' : PV} (hz : Fz h η k pv pv') :
  (∀ v, CRep μ h S w pv v → CRep (muFz μ h k) η (sFz μ h k S) w pv' v) ∧ (∀ v, ARep μ h S w pv v → ARep (muFz μ h k) η (sFz μ h k S) w pv' v) ∧ (∀ v, VRep μ h S w pv v → VRep (muFz μ h k) η (sFz μ h k S) w pv' v) := by
 have up : ∀ pv v, PRep S w pv v → PRep (sFz μ h k S) w pv v := fun pv v hp => PRep.mono (fun _ _ => rfl) (fun b hb => .inl hb) hp
 have same : ∀ pv : PV, (∀ v, CRep μ h S w pv v → PRep S w pv v) → (∀ v, ARep μ h S w pv v → CRep μ h S w pv v) → (∀ v, VRep μ h S w pv v → ARep μ h S w pv v) → ∀ pv' : PV, (∀ v, PRep S w pv v → PRep (sFz μ h k S) w pv' v) →
   (∀ v, CRep μ h S w pv v → CRep (muFz μ h k) η (sFz μ h k S) w pv' v) ∧ (∀ v, ARep μ h S w pv v → CRep (muFz μ h k) η (sFz μ h k S) w pv' v) ∧ (∀ v, VRep μ h S w pv v → CRep (muFz μ h k) η (sFz μ h k S) w pv' v) :=
  fun pv h1 h2 h3 pv' hp => ⟨fun v hv => CRep.of_pure (hp v (h1 v hv)), fun v hv => CRep.of_pure (hp v (h1 v (h2 v hv))), fun v hv => CRep.of_pure (hp v (h1 v (h2 v (h3 v hv))))⟩
 induction hz with
 | int k' n => exact same (.int k' n) (fun _ h => h) (fun _ h => h) (fun _ h => h) _ (up _)
 | bool b => exact same (.bool b) (fun _ h => h) (fun _ h => h) (fun _ h => h) _ (up _)
 | str s => exact same (.str s) (fun _ h => h) (fun _ h => h) (fun _ h => h) _ (up _)
 | nils => exact same .nils (fun _ h => h) (fun _ h => h) (fun _ h => h) _ (up _)
 | nils0 sz f => exact same .nils (fun _ h => h) (fun _ h => h) (fun _ h => h) (.slc sz 0 f) (fun v hv => by cases hv; exact .slc0 _ _ _ _)
 | nilo id id' g' sz' e' f' hk ho hη =>
  have key : ∀ v, v = Value.slice none 0 0 → OwnRep (muFz μ h k) η w id' g' 0 0 v := fun v hv => by
   unfold OwnRep
   rw [hη]
   refine ⟨⟨_, _, _, hv⟩, Nat.le_refl _, fun _ => ⟨Nat.le_refl _, ?_⟩⟩
   rw [muFz_none hk ho]
   exact hv
  have inv : ∀ v, PRep S w .nils v → v = Value.slice none 0 0 := fun v hv => by cases hv; rfl
  exact ⟨fun v hv => key v (inv v hv), fun v hv => key v (inv v hv), fun v hv => key v (inv v hv)⟩
 | fn f => exact same (.fn f) (fun _ h => h) (fun _ h => h) (fun _ h => h) _ (up _)
 | pptr cs => exact same (.pptr cs) (fun _ h => h) (fun _ h => h) (fun _ h => h) _ (up _)
 | slc sz n f f' hf =>
  exact same (.slc sz n f) (fun _ h => h) (fun _ h => h) (fun _ h => h) (.slc sz n f') (fun v hv => by
   have hv := up _ _ hv
   cases hv with
   | slc0 _ _ a c => exact .slc0 _ _ _ _
   | slc _ _ _ b off c vf h1 h2 h3 h4 h5 =>
    exact .slc sz n f' b off c vf h1 (fun i hi => by rw [hf i hi]; exact h2 i hi) h3 (fun i j pv hi hj => h4 i j pv hi (by rw [← hf i hi]; exact hj)) (fun i j pv hi hj => h5 i j pv hi (by rw [← hf i hi]; exact hj)))
 | junk pv => exact ⟨fun v hv => hv.one, fun _ _ => trivial, fun _ _ => trivial⟩
 | own id id' g g' sz sz' n n' off len e e' f f' hk ho hη hn =>
  have key : ∀ v, OwnRep μ h w id g off len v → OwnRep (muFz μ h k) η w id' g' off len v := fun v hv => by
   unfold OwnRep at hv ⊢
   rw [ho] at hv
   rw [hη]
   obtain ⟨h1, _, hv2⟩ := hv
   have hv3 := hv2 rfl
   clear hv2
   obtain ⟨h2, h3⟩ := hv3
   obtain ⟨_, hget⟩ := fzHeap_get η k 0 hh
   obtain ⟨id2, r1, r2⟩ := hget id' _ hη
   rw [hk] at r1
   injection r1 with r1
   subst r1
   unfold OFz at r2
   rw [ho] at r2
   obtain ⟨_, rfl, _, _⟩ := r2
   refine ⟨h1, Nat.le_refl _, fun _ => ⟨hn, ?_⟩⟩
   have hm : muFz μ h k id' = μ id := muFz_at hk ho
   rw [hm]
   exact h3
  exact ⟨key, key, key⟩
 | optr id id' g g' sz sz' n n' i off e e' f f' hk ho hη hn =>
  have key : ∀ v, OptrRep μ h w id g i off v → OptrRep (muFz μ h k) η w id' g' i off v := fun v hv => by
   unfold OptrRep at hv ⊢
   rw [ho] at hv
   rw [hη]
   obtain ⟨h1, _, hv2⟩ := hv
   have hv3 := hv2 rfl
   clear hv2
   obtain ⟨h2, h3⟩ := hv3
   obtain ⟨_, hget⟩ := fzHeap_get η k 0 hh
   obtain ⟨id2, r1, r2⟩ := hget id' _ hη
   rw [hk] at r1
   injection r1 with r1
   subst r1
   unfold OFz at r2
   rw [ho] at r2
   obtain ⟨_, rfl, _, _⟩ := r2
   refine ⟨h1, Nat.le_refl _, fun _ => ⟨hn, ?_⟩⟩
   have hm : muFz μ h k id' = μ id := muFz_at hk ho
   rw [hm]
   exact h3
  exact ⟨key, key, key⟩
 | clo f caps caps' hl hcc =>
  have key : ∀ v, CloRep μ h w f caps v → CloRep (muFz μ h k) η w f caps' v := fun v hv => by
   obtain ⟨vs, h1, h2, h3⟩ := hv
   refine ⟨vs, h1, h2.trans hl.symm, fun j p' hj => ?_⟩
   have hlt : j < caps.length := by rw [← hl]; exact (List.getElem?_eq_some_iff.1 hj).1
   obtain ⟨hk, ⟨sz, n, e, g, ho⟩, sz', n', e', g', hη, hn⟩ := hcc j _ p' (List.getElem?_eq_getElem hlt) hj
   obtain ⟨u, q1, q2⟩ := h3 j _ (List.getElem?_eq_getElem hlt)
   refine ⟨u, q1, ?_⟩
   unfold OptrRep at q2 ⊢
   rw [ho] at q2
   rw [hη]
   obtain ⟨a1, _, a2⟩ := q2
   have a3 := a2 rfl
   clear a2
   obtain ⟨a4, a5⟩ := a3
   obtain ⟨_, hget⟩ := fzHeap_get η k 0 hh
   obtain ⟨id2, r1, r2⟩ := hget p'.1 _ hη
   rw [hk] at r1
   injection r1 with r1
   subst r1
   unfold OFz at r2
   rw [ho] at r2
   obtain ⟨_, rfl, _, _⟩ := r2
   refine ⟨a1, Nat.le_refl _, fun _ => ⟨hn, ?_⟩⟩
   rw [muFz_at hk ho]
   exact a5
  exact ⟨key, key, key⟩
 | omp id id' g g' sz sz' n n' e e' f f' hk ho hη =>
  have key : ∀ v, OmpRep μ h w id v → OmpRep (muFz μ h k) η w id' v := fun v hv => by
   unfold OmpRep at hv ⊢
   rw [ho] at hv
   rw [hη]
   obtain ⟨h1, b, base, q1, q2, q3⟩ := hv
   exact ⟨h1, b, base, (muFz_at hk ho).trans q1, q2, q3⟩
  exact ⟨key, key, key⟩
 | frz id g sz n off len e f f' hk ho hl hp hf ih =>
  have key : ∀ v, OwnRep μ h w id g off len v → CRep (muFz μ h k) η (sFz μ h k S) w (.slc sz len f') v := fun v hv => by
   refine CRep.of_pure ?_
   unfold OwnRep at hv
   rw [ho] at hv
   obtain ⟨_, _, hv⟩ := hv
   obtain ⟨hle, hv⟩ := hv rfl
   obtain ⟨hlr, hcell⟩ := hc.heap id g sz n e f ho
   cases hmu : μ id with
   | none =>
    rw [hmu] at hv hcell
    have hn : n = 0 := hcell
    have h0 : len = 0 := by omega
    subst h0
    have hv : v = .slice none 0 0 := hv
    subst hv
    exact .slc0 _ _ _ _
   | some p =>
    obtain ⟨b, base⟩ := p
    rw [hmu] at hv hcell
    obtain ⟨ad, cap, rfl, hlc, had, hcp⟩ := hv
    obtain ⟨cur, hcur, hfit, hcells⟩ := HeapRep.cells hcp hcell
    rcases Nat.eq_zero_or_pos len with h0 | h0
    ·subst h0
     exact .slc0 _ _ _ _
    ·have had := had (by omega)
     subst had
     have hcl : ∀ (i j : Nat) (pv' : PV), i < len → (f' i)[j]? = some pv' → ∃ u, w.cell? ⟨b, base + off * sz + i * sz + j, none⟩ = some u ∧ PRep (sFz μ h k S) w pv' u := fun i j pv' hi hj => by
      have hjl : j < (f (off + i)).length := by rw [← hl i hi]; exact (List.getElem?_eq_some_iff.1 hj).1
      have hj0 := List.getElem?_eq_getElem hjl
      obtain ⟨u, h1, h2⟩ := hcells (off + i) j _ (by omega) hj0
      have h3 := (ih i j _ pv' hi hj0 hj).1 u h2
      refine ⟨u, ?_, crep_pure (hp i j pv' hi hj) h3⟩
      rw [cell_of_row w b _ cur e (0, 0) hcur, ← h1]
      congr 1
      rw [Nat.add_mul]
      omega
     refine .slc sz len f' b (base + off * sz) cap (fun i j => (w.cell? ⟨b, base + off * sz + i * sz + j, none⟩).getD undef) (.inr ⟨id, g, sz, n, e, f, base, hk, ho, hmu⟩) (fun i hi => by rw [hl i hi]; exact hlr _ (by omega)) hlc (fun i j pv hi hj => ?_) (fun i j pv hi hj => ?_)
     ·obtain ⟨u, h1, _⟩ := hcl i j pv hi hj
      rw [h1]; rfl
     ·obtain ⟨u, h1, h2⟩ := hcl i j pv hi hj
      simp only [h1, Option.getD_some]
      exact h2
  exact ⟨key, key, key⟩
 | agg cs cs' hl hcc ih =>
  have key : ∀ v, ARep μ h S w (.agg cs) v → ARep (muFz μ h k) η (sFz μ h k S) w (.agg cs') v := fun v hv => by
   obtain ⟨vs, h1, h2, h3⟩ := hv
   refine ⟨vs, h1, h2.trans hl.symm, fun j pv' hj => ?_⟩
   have hjl : j < cs.length := by rw [← hl]; exact (List.getElem?_eq_some_iff.1 hj).1
   have hj0 := List.getElem?_eq_getElem hjl
   obtain ⟨u, q1, q2⟩ := h3 j _ hj0
   exact ⟨u, q1, (ih j _ pv' hj0 hj).1 u q2⟩
  exact ⟨fun _ hv => (show False from hv).elim, key, key⟩
 | tup cs cs' hl hcc ih =>
  refine ⟨fun _ hv => (show False from hv).elim, fun _ hv => (show False from hv).elim, fun v hv => ?_⟩
  obtain ⟨vs, h1, h2, h3⟩ := hv
  refine ⟨vs, h1, h2.trans hl.symm, fun j pv' hj => ?_⟩
  have hjl : j < cs.length := by rw [← hl]; exact (List.getElem?_eq_some_iff.1 hj).1
  have hj0 := List.getElem?_eq_getElem hjl
  obtain ⟨u, q1, q2⟩ := h3 j _ hj0
  exact ⟨u, q1, (ih j _ pv' hj0 hj).2.1 u q2⟩
end
end Go.Am
