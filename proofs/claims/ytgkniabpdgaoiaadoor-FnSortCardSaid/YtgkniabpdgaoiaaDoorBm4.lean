/- What a new object, a store and an append do to the words of the abstract machine. -/
import Derived.Test.YtgkniabpdgaoiaaDoorBm3
set_option linter.unusedVariables false
set_option linter.unusedSimpArgs false
namespace Go.Am
open Go Go.RowKit
section
variable {P : Program} {T : Tab} {μ : Mu} {h : List AObj} {S : Nat → Prop} {w w1 : World}
def muSet (μ : Mu) (id : Nat) (p : Option (Nat × Nat)) : Mu := fun j => if j = id then p else μ j
theorem muSet_self (μ : Mu) (id : Nat) (p : Option (Nat × Nat)) : muSet μ id p id = p := by simp [muSet]
theorem muSet_ne (μ : Mu) {id j : Nat} (p : Option (Nat × Nat)) (hj : j ≠ id) : muSet μ id p j = μ j := by simp [muSet, hj]
structure Core (μ : Mu) (h : List AObj) (S : Nat → Prop) (w : World) : Prop where
 heap : HeapRep μ h S w
 ok : MuOk μ h S w
theorem core_set (hc : Core μ h S w) (id g g1 sz n n1 : Nat) (e : TypeId) (f f1 : Nat → List PV) (hh : h[id]? = some (AObj.row g sz n e f)) (b1 base1 : Nat) (cur1 : Array Value)
  (hg : g ≤ g1) (hg1 : g1 = g → μ id = some (b1, base1) ∧ n1 = n)
  (hb : w.heap.size ≤ b1 ∨ ∃ base cur, μ id = some (b1, base) ∧ w.heap[b1]? = some (.cells cur e (0, 0)) ∧ cur.size = cur1.size)
  (hw : w1.heap[b1]? = some (.cells cur1 e (0, 0))) (hfit : base1 + n1 * sz ≤ cur1.size)
  (hsame : ∀ b, b < w.heap.size → b ≠ b1 → w1.heap[b]? = w.heap[b]?) (hsize : w.heap.size ≤ w1.heap.size) (hos : w1.os = w.os) (htape : w1.tape = w.tape) (hout : w1.output = w.output)
  (hl : ∀ i, i < n1 → (f1 i).length = sz) (hnm : ∀ b base, μ id = some (b, base) → ¬ MapBlk w b)
  (hcell : ∀ (i j : Nat) (pv : PV), i < n1 → (f1 i)[j]? = some pv → ∃ v : Value, cur1[base1 + i * sz + j]? = some v ∧ CRep μ h S w pv v) :
  Fr μ h S w (muSet μ id (some (b1, base1))) (h.set id (.row g1 sz n1 e f1)) S w1 ∧ Core (muSet μ id (some (b1, base1))) (h.set id (.row g1 sz n1 e f1)) S w1 := by
 have hid : id < h.length := (List.getElem?_eq_some_iff.1 hh).1
 have get_self : (h.set id (AObj.row g1 sz n1 e f1))[id]? = some (AObj.row g1 sz n1 e f1) := by simp [hid]
 have get_ne : ∀ j, j ≠ id → (h.set id (AObj.row g1 sz n1 e f1))[j]? = h[j]? := fun j hj => by rw [List.getElem?_set_ne (Ne.symm hj)]
 have hb1lt : b1 < w1.heap.size := (Array.getElem?_eq_some_iff.1 hw).1
 have ownedOld : b1 < w.heap.size → Owned μ h b1 := fun hlt => by
  rcases hb with hb | ⟨base, cur, hm, _, _⟩
  ·omega
  ·exact ⟨id, g, sz, n, e, f, base, hh, hm⟩
 have hfr : Fr μ h S w (muSet μ id (some (b1, base1))) (h.set id (.row g1 sz n1 e f1)) S w1 := by
  refine ⟨by simp, fun b hlt hno => ?_, fun _ hb => hb, fun _ hb => .inl hb, fun b hb' => ?_, hsize, hos, htape, hout, fun j gj szj nj ej fj hj => ?_, fun j hj => ?_, fun b k hob hcap => ?_, fun j gj szj nj ej fj b base hj hm hmb => ?_⟩
  ·by_cases hbb : b = b1
   ·subst hbb; exact (hno (ownedOld hlt)).elim
   ·exact hsame b hlt hbb
  ·obtain ⟨j, gj, szj, nj, ej, fj, basej, hj, hm⟩ := hb'
   by_cases hji : j = id
   ·subst hji
    rw [muSet_self] at hm
    injection hm with hm
    injection hm with h1 h2
    subst h1
    rcases Nat.lt_or_ge b1 w.heap.size with hlt | hge
    ·exact .inl (ownedOld hlt)
    ·exact .inr hge
   ·rw [get_ne j hji] at hj
    rw [muSet_ne μ _ hji] at hm
    exact .inl ⟨j, gj, szj, nj, ej, fj, basej, hj, hm⟩
  ·by_cases hji : j = id
   ·subst hji
    rw [hh] at hj
    injection hj with hj
    injection hj with e1 e2 e3 e4 e5
    subst e1 e2 e3 e4 e5
    rw [get_self]
    refine ⟨hg, fun he => ?_⟩
    obtain ⟨h1, h2⟩ := hg1 he
    exact ⟨by rw [muSet_self, h1], rfl, h2, rfl⟩
   ·rw [get_ne j hji, hj]
    exact ⟨Nat.le_refl _, fun _ => ⟨muSet_ne μ _ hji, rfl, rfl, rfl⟩⟩
  ·have hji : j ≠ id := by rintro rfl; rw [hh] at hj; cases hj
   rw [get_ne j hji]; exact hj
  ·by_cases hbb : b = b1
   ·subst hbb
    obtain ⟨cur, e', q1, q2⟩ := hcap
    rcases hb with hb | ⟨base, cur', hm, hcur, hsz⟩
    ·have := (Array.getElem?_eq_some_iff.1 q1).1; omega
    ·rw [hcur] at q1
     injection q1 with q1
     injection q1 with q1 _ _
     subst q1
     exact ⟨cur1, e, hw, by omega⟩
   ·exact CapOk.of_same (hsame b hcap.lt hbb) hcap
  ·have hji : j ≠ id := by rintro rfl; exact hnm b base hm hmb
   have hbb : b ≠ b1 := by
    rintro rfl
    obtain ⟨es, c, q⟩ := hmb
    rcases hb with hb | ⟨base', cur', hm', hcur, _⟩
    ·have := (Array.getElem?_eq_some_iff.1 q).1; omega
    ·rw [hcur] at q; cases q
   obtain ⟨es, c, q⟩ := hmb
   exact ⟨⟨es, c, (hsame b (Array.getElem?_eq_some_iff.1 q).1 hbb).trans q⟩, .inr ⟨⟨_, _, _, _, _, (get_ne j hji).trans hj⟩, by rw [muSet_ne μ _ hji]; exact hm⟩⟩
 refine ⟨hfr, ⟨fun j gj szj nj ej fj hj => ?_, ?_⟩⟩
 ·by_cases hji : j = id
  ·subst hji
   rw [get_self] at hj
   injection hj with hj
   injection hj with e1 e2 e3 e4 e5
   subst e1 e2 e3 e4 e5
   rw [muSet_self]
   refine ⟨hl, HeapRep.of_cells ⟨cur1, hw, hfit, fun i k pv hi hk => ?_⟩⟩
   obtain ⟨v, h1, h2⟩ := hcell i k pv hi hk
   exact ⟨v, h1, h2.fr hfr hc.ok⟩
  ·rw [get_ne j hji] at hj
   obtain ⟨h1, h2⟩ := hc.heap j gj szj nj ej fj hj
   refine ⟨h1, ?_⟩
   rw [muSet_ne μ _ hji]
   cases hm : μ j with
   | none => rw [hm] at h2; exact h2
   | some p =>
    obtain ⟨b, base⟩ := p
    rw [hm] at h2
    obtain ⟨o, q1, q2⟩ := h2
    have hlt : b < w.heap.size := (Array.getElem?_eq_some_iff.1 q1).1
    have hbb : b ≠ b1 := by
     rintro rfl
     rcases hb with hb | ⟨base', cur', hm', _⟩
     ·omega
     ·exact hji (hc.ok.inj j id _ _ _ _ _ _ _ _ _ _ _ _ _ hj hh hm hm')
    exact ⟨o, (hsame b hlt hbb).trans q1, q2.mono (fun _ _ _ _ _ _ hr => hr.fr hfr hc.ok)⟩
 ·refine ⟨fun b hob hSb => ?_, fun b hob => ?_, fun b hSb => Nat.lt_of_lt_of_le (hc.ok.slt b hSb) hsize, ?_, hc.ok.amb_fr hfr⟩
  ·rcases hfr.own b hob with h1 | h1
   ·exact hc.ok.apart b h1 hSb
   ·have := hc.ok.slt b hSb; omega
  ·obtain ⟨j, gj, szj, nj, ej, fj, basej, hj, hm⟩ := hob
   by_cases hji : j = id
   ·subst hji
    rw [muSet_self] at hm
    injection hm with hm
    injection hm with h1 h2
    subst h1
    exact hb1lt
   ·rw [get_ne j hji] at hj
    rw [muSet_ne μ _ hji] at hm
    exact Nat.lt_of_lt_of_le (hc.ok.lt b ⟨j, gj, szj, nj, ej, fj, basej, hj, hm⟩) hsize
  ·intro i j gi szi ni ei fi gj szj nj ej fj b o o' hi hj hmi hmj
   by_cases hii : i = id
   ·by_cases hji : j = id
    ·rw [hii, hji]
    ·subst hii
     rw [muSet_self] at hmi
     injection hmi with hmi
     injection hmi with h1 h2
     subst h1
     rw [get_ne j hji] at hj
     rw [muSet_ne μ _ hji] at hmj
     rcases hb with hb | ⟨base', cur', hm', _⟩
     ·have := hc.ok.lt _ ⟨j, gj, szj, nj, ej, fj, o', hj, hmj⟩; omega
     ·exact hc.ok.inj i j _ _ _ _ _ _ _ _ _ _ _ _ _ hh hj hm' hmj
   ·rw [get_ne i hii] at hi
    rw [muSet_ne μ _ hii] at hmi
    by_cases hji : j = id
    ·subst hji
     rw [muSet_self] at hmj
     injection hmj with hmj
     injection hmj with h1 h2
     subst h1
     rcases hb with hb | ⟨base', cur', hm', _⟩
     ·have := hc.ok.lt _ ⟨i, gi, szi, ni, ei, fi, o, hi, hmi⟩; omega
     ·exact hc.ok.inj i j _ _ _ _ _ _ _ _ _ _ _ _ _ hi hh hmi hm'
    ·rw [get_ne j hji] at hj
     rw [muSet_ne μ _ hji] at hmj
     exact hc.ok.inj i j _ _ _ _ _ _ _ _ _ _ _ _ _ hi hj hmi hmj
theorem core_newO (hc : Core μ h S w) (sz n : Nat) (e : TypeId) (f : Nat → List PV) (p : Option (Nat × Nat))
  (hp : match p with
   | none => n = 0
   | some (b, base) => w.heap.size ≤ b ∧ ∃ o : Obj, w1.heap[b]? = some o ∧ ObjRep (CRep μ h S w) base sz n e f o)
  (ha : Agree w w1) (hl : ∀ i, i < n → (f i).length = sz) :
  Fr μ h S w (muSet μ h.length p) (h ++ [.row 0 sz n e f]) S w1 ∧ Core (muSet μ h.length p) (h ++ [.row 0 sz n e f]) S w1 := by
 have get_old : ∀ j o, h[j]? = some o → (h ++ [AObj.row 0 sz n e f])[j]? = some o := fun j o hj => by
  rw [List.getElem?_append_left (List.getElem?_eq_some_iff.1 hj).1]; exact hj
 have get_new : (h ++ [AObj.row 0 sz n e f])[h.length]? = some (AObj.row 0 sz n e f) := by simp
 have get_inv : ∀ j o, (h ++ [AObj.row 0 sz n e f])[j]? = some o → (h[j]? = some o ∧ j ≠ h.length) ∨ (j = h.length ∧ o = AObj.row 0 sz n e f) := fun j o hj => by
  rcases Nat.lt_trichotomy j h.length with hlt | heq | hgt
  ·rw [List.getElem?_append_left hlt] at hj; exact .inl ⟨hj, by omega⟩
  ·subst heq; rw [get_new] at hj; injection hj with hj; exact .inr ⟨rfl, hj.symm⟩
  ·rw [List.getElem?_eq_none (by simp; omega)] at hj; cases hj
 have mu_old : ∀ j o, h[j]? = some o → muSet μ h.length p j = μ j := fun j o hj => muSet_ne μ _ (by have := (List.getElem?_eq_some_iff.1 hj).1; omega)
 have hfr : Fr μ h S w (muSet μ h.length p) (h ++ [.row 0 sz n e f]) S w1 := by
  refine ⟨by simp, fun b hlt _ => ha.blocks b hlt, fun _ hb => hb, fun _ hb => .inl hb, fun b hb' => ?_, ha.size, ha.os, ha.tape, ha.output, fun j gj szj nj ej fj hj => ?_, fun j hj => get_old j _ hj, fun b k hob hcap => CapOk.of_same (ha.blocks b hcap.lt) hcap, fun j gj szj nj ej fj b base hj hm hmb => ⟨let ⟨es, c, q⟩ := hmb; ⟨es, c, (ha.blocks b (Array.getElem?_eq_some_iff.1 q).1).trans q⟩, .inr ⟨⟨_, _, _, _, _, get_old j _ hj⟩, by rw [mu_old j _ hj]; exact hm⟩⟩⟩
  ·obtain ⟨j, gj, szj, nj, ej, fj, basej, hj, hm⟩ := hb'
   rcases get_inv j _ hj with ⟨h1, h2⟩ | ⟨h1, h2⟩
   ·rw [muSet_ne μ _ h2] at hm
    exact .inl ⟨j, gj, szj, nj, ej, fj, basej, h1, hm⟩
   ·subst h1
    rw [muSet_self] at hm
    subst hm
    exact .inr hp.1
  ·rw [get_old j _ hj]
   exact ⟨Nat.le_refl _, fun _ => ⟨mu_old j _ hj, rfl, rfl, rfl⟩⟩
 refine ⟨hfr, ⟨fun j gj szj nj ej fj hj => ?_, ?_⟩⟩
 ·rcases get_inv j _ hj with ⟨h1, h2⟩ | ⟨h1, h2⟩
  ·obtain ⟨q1, q2⟩ := hc.heap j gj szj nj ej fj h1
   refine ⟨q1, ?_⟩
   rw [muSet_ne μ _ h2]
   cases hm : μ j with
   | none => rw [hm] at q2; exact q2
   | some p' =>
    obtain ⟨b, base⟩ := p'
    rw [hm] at q2
    obtain ⟨o, r1, r2⟩ := q2
    have hlt : b < w.heap.size := (Array.getElem?_eq_some_iff.1 r1).1
    exact ⟨o, (ha.blocks b hlt).trans r1, r2.mono (fun _ _ _ _ _ _ hr => hr.fr hfr hc.ok)⟩
  ·subst h1
   injection h2 with e1 e2 e3 e4 e5
   subst e1 e2 e3 e4 e5
   rw [muSet_self]
   refine ⟨hl, ?_⟩
   cases p with
   | none => exact hp
   | some p' =>
    obtain ⟨b, base⟩ := p'
    obtain ⟨_, o, r1, r2⟩ := hp
    exact ⟨o, r1, r2.mono (fun _ _ _ _ _ _ hr => hr.fr hfr hc.ok)⟩
 ·refine ⟨fun b hob hSb => ?_, fun b hob => ?_, fun b hSb => Nat.lt_of_lt_of_le (hc.ok.slt b hSb) ha.size, ?_, hc.ok.amb_fr hfr⟩
  ·rcases hfr.own b hob with h1 | h1
   ·exact hc.ok.apart b h1 hSb
   ·have := hc.ok.slt b hSb; omega
  ·obtain ⟨j, gj, szj, nj, ej, fj, basej, hj, hm⟩ := hob
   rcases get_inv j _ hj with ⟨h1, h2⟩ | ⟨h1, h2⟩
   ·rw [muSet_ne μ _ h2] at hm
    exact Nat.lt_of_lt_of_le (hc.ok.lt b ⟨j, gj, szj, nj, ej, fj, basej, h1, hm⟩) ha.size
   ·subst h1
    rw [muSet_self] at hm
    subst hm
    obtain ⟨_, o, r1, _⟩ := hp
    exact (Array.getElem?_eq_some_iff.1 r1).1
  ·intro i j gi szi ni ei fi gj szj nj ej fj b o o' hi hj hmi hmj
   rcases get_inv i _ hi with ⟨h1, h2⟩ | ⟨h1, h2⟩
   ·rw [muSet_ne μ _ h2] at hmi
    rcases get_inv j _ hj with ⟨h3, h4⟩ | ⟨h3, h4⟩
    ·rw [muSet_ne μ _ h4] at hmj
     exact hc.ok.inj i j _ _ _ _ _ _ _ _ _ _ _ _ _ h1 h3 hmi hmj
    ·subst h3
     rw [muSet_self] at hmj
     subst hmj
     have := hc.ok.lt _ ⟨i, gi, szi, ni, ei, fi, o, h1, hmi⟩
     have := hp.1
     omega
   ·subst h1
    rw [muSet_self] at hmi
    rcases get_inv j _ hj with ⟨h3, h4⟩ | ⟨h3, h4⟩
    ·rw [muSet_ne μ _ h4] at hmj
     subst hmi
     have := hc.ok.lt _ ⟨j, gj, szj, nj, ej, fj, o', h3, hmj⟩
     have := hp.1
     omega
    ·exact h3.symm
theorem core_new (hc : Core μ h S w) (sz n : Nat) (e : TypeId) (f : Nat → List PV) (p : Option (Nat × Nat))
  (hp : match p with
   | none => n = 0
   | some (b, base) => w.heap.size ≤ b ∧ ∃ cur : Array Value, w1.heap[b]? = some (.cells cur e (0, 0)) ∧ base + n * sz ≤ cur.size ∧
    ∀ (i j : Nat) (pv : PV), i < n → (f i)[j]? = some pv → ∃ v : Value, cur[base + i * sz + j]? = some v ∧ CRep μ h S w pv v)
  (ha : Agree w w1) (hl : ∀ i, i < n → (f i).length = sz) :
  Fr μ h S w (muSet μ h.length p) (h ++ [.row 0 sz n e f]) S w1 ∧ Core (muSet μ h.length p) (h ++ [.row 0 sz n e f]) S w1 := by
 refine core_newO hc sz n e f p ?_ ha hl
 cases p with
 | none => exact hp
 | some q => exact ⟨hp.1, HeapRep.of_cells hp.2⟩
theorem CapOk.notMap {b k : Nat} (h : CapOk w b k) : ¬ MapBlk w b := by
 rintro ⟨es, c, q⟩
 obtain ⟨cur, e, h1, _⟩ := h
 rw [h1] at q; cases q
end
end Go.Am
