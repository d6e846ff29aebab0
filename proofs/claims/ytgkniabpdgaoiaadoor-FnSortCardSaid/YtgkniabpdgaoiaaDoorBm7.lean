/- Append, calls, and all operations together. -/
import Derived.Test.YtgkniabpdgaoiaaDoorBm6
import Derived.MapKept
import Derived.Lib.ConvBytes
import Derived.Lib.AtoiErrMem
set_option linter.unusedVariables false
set_option linter.unusedSimpArgs false
namespace Go.Am
open Go Go.RowKit
section
variable {P : Program} {T : Tab} {μ : Mu} {h : List AObj} {S : Nat → Prop} {w : World}
theorem core_set_none (hc : Core μ h S w) (id g g1 sz n : Nat) (e : TypeId) (f f1 : Nat → List PV) (hh : h[id]? = some (AObj.row g sz n e f)) (hmu : μ id = none) (hg : g < g1) :
  Fr μ h S w μ (h.set id (.row g1 sz 0 e f1)) S w ∧ Core μ (h.set id (.row g1 sz 0 e f1)) S w := by
 have hid : id < h.length := (List.getElem?_eq_some_iff.1 hh).1
 have get_self : (h.set id (AObj.row g1 sz 0 e f1))[id]? = some (AObj.row g1 sz 0 e f1) := by simp [hid]
 have get_ne : ∀ j, j ≠ id → (h.set id (AObj.row g1 sz 0 e f1))[j]? = h[j]? := fun j hj => by rw [List.getElem?_set_ne (Ne.symm hj)]
 have hown : ∀ b, Owned μ (h.set id (AObj.row g1 sz 0 e f1)) b → Owned μ h b := fun b hb => by
  obtain ⟨j, gj, szj, nj, ej, fj, basej, hj, hm⟩ := hb
  by_cases hji : j = id
  ·subst hji; rw [hmu] at hm; cases hm
  ·rw [get_ne j hji] at hj; exact ⟨j, gj, szj, nj, ej, fj, basej, hj, hm⟩
 have hfr : Fr μ h S w μ (h.set id (.row g1 sz 0 e f1)) S w := by
  refine ⟨by simp, fun _ _ _ => rfl, fun _ hb => hb, fun _ hb => .inl hb, fun b hb => .inl (hown b hb), Nat.le_refl _, rfl, rfl, rfl, fun j gj szj nj ej fj hj => ?_, fun j hj => ?_, fun _ _ _ hcap => hcap, fun j gj szj nj ej fj b base hj hm hmb => ⟨hmb, .inr ⟨⟨_, _, _, _, _, (get_ne j (by rintro rfl; rw [hmu] at hm; cases hm)).trans hj⟩, hm⟩⟩⟩
  ·by_cases hji : j = id
   ·subst hji
    rw [hh] at hj
    injection hj with hj
    injection hj with e1 e2 e3 e4 e5
    subst e1 e2 e3 e4 e5
    rw [get_self]
    exact ⟨by omega, fun he => absurd he (by omega)⟩
   ·rw [get_ne j hji, hj]
    exact ⟨Nat.le_refl _, fun _ => ⟨rfl, rfl, rfl, rfl⟩⟩
  ·have hji : j ≠ id := by rintro rfl; rw [hh] at hj; cases hj
   rw [get_ne j hji]; exact hj
 refine ⟨hfr, ⟨fun j gj szj nj ej fj hj => ?_, ⟨fun b hb => hc.ok.apart b (hown b hb), fun b hb => hc.ok.lt b (hown b hb), hc.ok.slt, ?_, hc.ok.known⟩⟩⟩
 ·by_cases hji : j = id
  ·subst hji
   rw [get_self] at hj
   injection hj with hj
   injection hj with e1 e2 e3 e4 e5
   subst e1 e2 e3 e4 e5
   refine ⟨fun i hi => absurd hi (by omega), ?_⟩
   rw [hmu]
  ·rw [get_ne j hji] at hj
   obtain ⟨h1, h2⟩ := hc.heap j gj szj nj ej fj hj
   refine ⟨h1, ?_⟩
   cases hm : μ j with
   | none => rw [hm] at h2; exact h2
   | some p =>
    obtain ⟨b, base⟩ := p
    rw [hm] at h2
    obtain ⟨o, q1, q2⟩ := h2
    exact ⟨o, q1, q2.mono (fun _ _ _ _ _ _ hr => hr.fr hfr hc.ok)⟩
 ·intro i j gi szi ni ei fi gj szj nj ej fj b o o' hi hj hmi hmj
  have hii : i ≠ id := by rintro rfl; rw [hmu] at hmi; cases hmi
  have hji : j ≠ id := by rintro rfl; rw [hmu] at hmj; cases hmj
  rw [get_ne i hii] at hi
  rw [get_ne j hji] at hj
  exact hc.ok.inj i j _ _ _ _ _ _ _ _ _ _ _ _ _ hi hj hmi hmj
variable {a : Act} {env : Env} {K : PV → List AObj → Prop} {dst : Option Tmp} {ty : TypeId} {pos : String} {after : Array Edge} {guard : Option (Nat × Bool)}
theorem zeroCells_size (z : Array Value) (n : Nat) : (Builtin.zeroCells z n).size = n * z.size := by simp [Builtin.zeroCells]
theorem append_exec {s x : Operand} {t tx : TypeId} {sv xv v' : Value} {w' : World} (hs : a.eval s = sv) (hx : a.eval x = xv) (hr : (Builtin.append_ #[t, tx] ty #[sv, xv]).run P w = .ok v' w') :
  (execOp a.eval ⟨dst, .call ⟨.builtin .append, #[s, x], #[t, tx]⟩, ty, pos, after, guard⟩).run P w = .ok (.value v') w' := by
 simp only [execOp, resolve, invoke, builtin, Sem.run_bind, Sem.run_pure, Result.andThen_ok, List.map_toArray, List.map_cons, List.map_nil, hs, hx, hr]
theorem join_cells {sz l m : Nat} {f q : Nat → List PV} {olds news rest : Array Value} (ho : olds.size = l * sz) (hn : news.size = m * sz)
  (h1 : ∀ (i j : Nat) (pv : PV), i < l → (f i)[j]? = some pv → ∃ u, olds[i * sz + j]? = some u ∧ CRep μ h S w pv u)
  (h2 : ∀ (i j : Nat) (pv : PV), i < m → (q i)[j]? = some pv → ∃ u, news[i * sz + j]? = some u ∧ CRep μ h S w pv u)
  (hl1 : ∀ i, i < l → (f i).length = sz) (hl2 : ∀ i, i < m → (q i).length = sz) :
  ∀ (i j : Nat) (pv : PV), i < l + m → (bif Nat.blt i l then f i else q (i - l))[j]? = some pv → ∃ u, (olds ++ news ++ rest)[i * sz + j]? = some u ∧ CRep μ h S w pv u := by
 intro i j pv hi hj
 by_cases hil : i < l
 ·have hb : Nat.blt i l = true := by simpa using hil
  rw [hb] at hj
  simp only [cond_true] at hj
  obtain ⟨u, q1, q2⟩ := h1 i j pv hil hj
  have hlt : i * sz + j < olds.size := (Array.getElem?_eq_some_iff.1 q1).1
  exact ⟨u, by rw [Array.getElem?_append_left (by simp; omega), Array.getElem?_append_left hlt]; exact q1, q2⟩
 ·have hb : Nat.blt i l = false := by
   cases hh : Nat.blt i l with
   | true => exact (hil (by simpa using hh)).elim
   | false => rfl
  rw [hb] at hj
  simp only [cond_false] at hj
  obtain ⟨u, q1, q2⟩ := h2 (i - l) j pv (by omega) hj
  have hlt : (i - l) * sz + j < news.size := (Array.getElem?_eq_some_iff.1 q1).1
  have hmul : i * sz = l * sz + (i - l) * sz := by rw [← Nat.add_mul]; congr 1; omega
  refine ⟨u, ?_, q2⟩
  rw [Array.getElem?_append_left (by simp; omega), Array.getElem?_append_right (by omega), ← q1]
  congr 1
  omega
theorem join_len {sz l m : Nat} {f q : Nat → List PV} (hl1 : ∀ i, i < l → (f i).length = sz) (hl2 : ∀ i, i < m → (q i).length = sz) : ∀ i, i < l + m → (bif Nat.blt i l then f i else q (i - l)).length = sz := by
 intro i hi
 by_cases hil : i < l
 ·have hb : Nat.blt i l = true := by simpa using hil
  rw [hb]; exact hl1 i hil
 ·have hb : Nat.blt i l = false := by
   cases hh : Nat.blt i l with
   | true => exact (hil (by simpa using hh)).elim
   | false => rfl
  rw [hb]; exact hl2 _ (by omega)
theorem drew_alloc_agree (w : World) (o : Obj) : Agree w (w.drew.alloc o) := (Agree.drew w).trans (alloc_agree w.drew o)
theorem append_nils (hT : TabOk P T) (hc : Core μ h S w) (t tx e sz bytes : Nat) (zero : List PV) (d : TypeDesc) (hti : T.get t = .slice e sz bytes zero) (hx' : P.underlying tx = some d) (hd : (∃ e', d = .slice e') ∨ d = .string)
  (s x : Operand) (hs : a.eval s = .slice none 0 0) (m : Nat) (g : Nat → List PV) (hsrc : Src P μ h S w (a.eval x) sz m g) (hb : m * bytes ≤ 140737488355328) (hK : K (.own h.length 0 0 m) (h ++ [.row 0 sz m e g])) :
  Acts P ⟨dst, .call ⟨.builtin .append, #[s, x], #[t, tx]⟩, ty, pos, after, guard⟩ a μ h S w K := by
 obtain ⟨hu, hsz, inf, zv, hinf, hisz, hib, hz, hzs, hzl, hzc⟩ := hT.slice _ _ _ _ _ hti
 have hbp := hT.bytes _ _ _ _ _ hti
 subst hisz hib
 obtain ⟨hl, news, q1, q2, q3, q4⟩ := hsrc
 rcases Nat.eq_zero_or_pos m with h0 | h0
 ·subst h0
  have hn : news = #[] := Array.eq_empty_of_size_eq_zero (by simpa using q1)
  subst hn
  obtain ⟨r1, r2⟩ := q4 w (Agree.refl w)
  have hr := run_append_fit (P := P) (w := w) t tx ty e inf d hu hx' hd hinf none 0 0 (a.eval x) 0 #[] w r1 r2 (Nat.le_refl _) rfl
  obtain ⟨hfr, hco⟩ := core_new (w1 := w) hc inf.size 0 e g none rfl (Agree.refl w) hl
  refine Acts.of_value (append_exec hs rfl hr) hK ?_ hco hfr
  show OwnRep _ _ _ _ _ _ _ _
  unfold OwnRep
  rw [List.getElem?_append_right (Nat.le_refl _), Nat.sub_self]
  refine ⟨⟨_, _, _, rfl⟩, Nat.le_refl _, fun _ => ⟨by omega, ?_⟩⟩
  rw [muSet_self]
 ·obtain ⟨r1, _⟩ := q4 w (Agree.refl w)
  obtain ⟨_, r2⟩ := q4 w.drew (Agree.drew w)
  have hr := run_append_more (P := P) (w := w) t tx ty e inf zv d hu hx' hd hinf hz none 0 0 (a.eval x) m #[] news r1 rfl r2 (by omega) hbp (by rw [Nat.zero_add]; exact hb)
  rw [Nat.zero_add] at hr
  obtain ⟨hfr, hco⟩ := core_new (w1 := w.drew.alloc (.cells (#[] ++ news ++ Builtin.zeroCells zv.cells (grownCap w m 0 e - m)) e)) hc inf.size m e g (some (w.heap.size, 0))
   ⟨Nat.le_refl _, _, heap_alloc_new w.drew _, by simp [q1], fun i j pv hi hj => by
    obtain ⟨u, p1, p2⟩ := q2 i j pv hi hj
    have hlt := (Array.getElem?_eq_some_iff.1 p1).1
    exact ⟨u, by rw [Array.empty_append, Nat.zero_add, Array.getElem?_append_left hlt]; exact p1, p2⟩⟩ (drew_alloc_agree w _) hl
  refine Acts.of_value (append_exec hs rfl hr) hK ?_ hco hfr
  show OwnRep _ _ _ _ _ _ _ _
  unfold OwnRep
  rw [List.getElem?_append_right (Nat.le_refl _), Nat.sub_self]
  refine ⟨⟨_, _, _, rfl⟩, Nat.le_refl _, fun _ => ⟨by omega, ?_⟩⟩
  rw [muSet_self]
  have hge := grownCap_ge w m 0 e
  refine ⟨_, grownCap w m 0 e, rfl, hge, fun _ => by simp, _, e, heap_alloc_new w.drew _, ?_⟩
  simp only [Array.size_append, zeroCells_size, hzs, q1]
  simp only [Nat.zero_add]
  have : grownCap w m 0 e * inf.size = m * inf.size + (grownCap w m 0 e - m) * inf.size := by rw [← Nat.add_mul]; congr 1; omega
  simp
  omega
theorem append_own (hT : TabOk P T) (hc : Core μ h S w) (t tx e sz bytes : Nat) (zero : List PV) (d : TypeDesc) (hti : T.get t = .slice e sz bytes zero) (hx' : P.underlying tx = some d) (hd : (∃ e', d = .slice e') ∨ d = .string)
  (s x : Operand) (id g off len n : Nat) (f : Nat → List PV) (hh : h[id]? = some (AObj.row g sz n e f)) (hs : VRep μ h S w (.own id g off len) (a.eval s)) (m : Nat) (q : Nat → List PV) (hsrc : Src P μ h S w (a.eval x) sz m q)
  (hb : (len + m) * bytes ≤ 140737488355328)
  (hK : K (.own id (g + 1) 0 (len + m)) (h.set id (.row (g + 1) sz (len + m) e (fun i => bif Nat.blt i len then f (off + i) else q (i - len))))) :
  Acts P ⟨dst, .call ⟨.builtin .append, #[s, x], #[t, tx]⟩, ty, pos, after, guard⟩ a μ h S w K := by
 obtain ⟨hu, hsz, inf, zv, hinf, hisz, hib, hz, hzs, hzl, hzc⟩ := hT.slice _ _ _ _ _ hti
 have hbp := hT.bytes _ _ _ _ _ hti
 subst hisz hib
 have hid : id < h.length := (List.getElem?_eq_some_iff.1 hh).1
 obtain ⟨hl1, olds, o1, o2, o3, o4⟩ := own_cells (P := P) hc id g off len inf.size n e f hh _ hs hsz
 obtain ⟨hl2, news, q1, q2, q3, q4⟩ := hsrc
 have hlj := join_len hl1 hl2
 have hr0 := hs.own_inv
 unfold OwnRep at hr0
 rw [hh] at hr0
 obtain ⟨⟨sa, sl, scap, hsv⟩, _, hr0⟩ := hr0
 obtain ⟨hle, hr0⟩ := hr0 rfl
 have hsl : sl = len := by
  obtain ⟨e1, _⟩ := o4 w (Agree.refl w)
  rw [hsv] at e1
  simp [Builtin.lenOf] at e1
  exact e1
 subst hsl
 obtain ⟨hl, hcell⟩ := hc.heap id g _ n e f hh
 have hnm : ∀ b base, μ id = some (b, base) → ¬ MapBlk w b := fun b base hmu => by
  rw [hmu] at hr0
  obtain ⟨_, _, _, _, _, hcap⟩ := hr0
  exact hcap.notMap
 by_cases hroom : sl + m ≤ scap
 ·-- in place
  obtain ⟨r1, r2⟩ := q4 w (Agree.refl w)
  cases hmu : μ id with
  | none =>
   rw [hmu] at hr0 hcell
   rw [hsv] at hr0
   injection hr0 with e1 e2 e3
   subst e1 e2 e3
   have hm : m = 0 := by omega
   subst hm
   have hn : news = #[] := Array.eq_empty_of_size_eq_zero (by simpa using q1)
   subst hn
   have hr := run_append_fit (P := P) (w := w) t tx ty e inf d hu hx' hd hinf none 0 0 (a.eval x) 0 #[] w r1 r2 (Nat.le_refl _) rfl
   obtain ⟨hfr, hco⟩ := core_set_none hc id g (g + 1) inf.size n e f (fun i => bif Nat.blt i 0 then f (off + i) else q (i - 0)) hh hmu (Nat.lt_succ_self g)
   refine Acts.of_value (append_exec hsv rfl hr) hK ?_ hco hfr
   show OwnRep _ _ _ _ _ _ _ _
   unfold OwnRep
   rw [List.getElem?_set_self hid]
   refine ⟨⟨_, _, _, rfl⟩, Nat.le_refl _, fun _ => ⟨by omega, ?_⟩⟩
   rw [hmu]
  | some p =>
   obtain ⟨b, base⟩ := p
   rw [hmu] at hr0 hcell
   obtain ⟨ad, cap, hv, hlc, had, hcap⟩ := hr0
   rw [hsv] at hv
   injection hv with e1 e2 e3
   subst e1 e3
   obtain ⟨cur, hcur, hfit, hcells⟩ := HeapRep.cells hcap hcell
   have hcap' : base + (off + scap) * inf.size ≤ cur.size := by
    obtain ⟨cur', e', p1, p2⟩ := hcap
    rw [hcur] at p1
    injection p1 with p1
    injection p1 with p1 _ _
    subst p1
    exact p2
   rw [Nat.add_mul] at hcap'
   have key : ∃ cur1 : Array Value, cur1.size = cur.size ∧ (match (some ad : Option Addr) with | some a => (storeCells (a.add (sl * inf.size)) news.toList).run P w = .ok () (w.setRow b cur1) | none => w.setRow b cur1 = w) ∧
     ∀ k, cur1[k]? = if base + off * inf.size + sl * inf.size ≤ k ∧ k < base + off * inf.size + sl * inf.size + m * inf.size then news[k - (base + off * inf.size + sl * inf.size)]? else cur[k]? := by
    rcases Nat.eq_zero_or_pos m with h0 | h0
    ·subst h0
     have hn : news = #[] := Array.eq_empty_of_size_eq_zero (by simpa using q1)
     subst hn
     refine ⟨cur, rfl, ?_, fun k => by rw [if_neg (by omega)]⟩
     show (storeCells (ad.add (sl * inf.size)) []).run P w = .ok () (w.setRow b cur)
     rw [setRow_self w b cur e (0, 0) hcur]
     rfl
    ·have had := had (by omega)
     subst had
     have hmul : (sl + m) * inf.size ≤ scap * inf.size := Nat.mul_le_mul_right _ hroom
     rw [Nat.add_mul] at hmul
     have hst := run_storeCells_at P b (base + off * inf.size + sl * inf.size) e news.toList 0 cur w hcur (by simp; omega) q3
     rw [Nat.add_zero] at hst
     refine ⟨(cur.toList.take (base + off * inf.size + sl * inf.size) ++ news.toList ++ cur.toList.drop (base + off * inf.size + sl * inf.size + news.toList.length)).toArray, ?_, ?_, fun k => ?_⟩
     ·simp; omega
     ·show (storeCells ((⟨b, base + off * inf.size, none⟩ : Addr).add (sl * inf.size)) news.toList).run P w = .ok () _
      rw [Addr.add_lit]
      exact hst
     ·have hsp := splice_get cur.toList news.toList (base + off * inf.size + sl * inf.size) k (by simp; omega)
      rw [List.getElem?_toArray, hsp]
      simp only [Array.getElem?_toList, Array.length_toList, q1]
   obtain ⟨cur1, c1, c2, c3⟩ := key
   have hr := run_append_fit (P := P) (w := w) t tx ty e inf d hu hx' hd hinf (some ad) sl scap (a.eval x) m news (w.setRow b cur1) r1 r2 hroom c2
   have hmul : (sl + m) * inf.size ≤ scap * inf.size := Nat.mul_le_mul_right _ hroom
   rw [Nat.add_mul] at hmul
   have hcore := core_set (w1 := w.setRow b cur1) hc id g (g + 1) inf.size n (sl + m) e f (fun i => bif Nat.blt i sl then f (off + i) else q (i - sl)) hh b (base + off * inf.size) cur1 (by omega) (fun he => absurd he (by omega))
    (.inr ⟨base, cur, hmu, hcur, c1.symm⟩) (setRow_heap w b cur _ e _ hcur) (by rw [c1, Nat.add_mul]; omega) (fun b' _ hne => setRow_other w b b' _ hne) (by simp) rfl rfl rfl hlj hnm
    (fun i j pv hi hj => by
     have hjs : j < inf.size := by rw [← hlj i hi]; exact (List.getElem?_eq_some_iff.1 hj).1
     rw [c3]
     by_cases hil : i < sl
     ·have hbl : Nat.blt i sl = true := by simpa using hil
      rw [hbl] at hj
      simp only [cond_true] at hj
      have hmi : (i + 1) * inf.size ≤ sl * inf.size := Nat.mul_le_mul_right _ hil
      rw [Nat.add_mul] at hmi
      rw [if_neg (by omega)]
      obtain ⟨u, p1, p2⟩ := hcells (off + i) j pv (by omega) hj
      refine ⟨u, ?_, p2⟩
      rw [← p1]
      congr 1
      rw [Nat.add_mul]
      omega
     ·have hbl : Nat.blt i sl = false := by
       cases hh' : Nat.blt i sl with
       | true => exact (hil (by simpa using hh')).elim
       | false => rfl
      rw [hbl] at hj
      simp only [cond_false] at hj
      have e1 : i * inf.size = sl * inf.size + (i - sl) * inf.size := by rw [← Nat.add_mul]; congr 1; omega
      have e2 : (i - sl + 1) * inf.size ≤ m * inf.size := Nat.mul_le_mul_right _ (by omega)
      rw [Nat.add_mul] at e2
      rw [if_pos (by omega)]
      obtain ⟨u, p1, p2⟩ := q2 (i - sl) j pv (by omega) hj
      exact ⟨u, by rw [← p1]; congr 1; omega, p2⟩)
   obtain ⟨hfr, hco⟩ := hcore
   refine Acts.of_value (append_exec hsv rfl hr) hK ?_ hco hfr
   show OwnRep _ _ _ _ _ _ _ _
   unfold OwnRep
   rw [List.getElem?_set_self hid]
   refine ⟨⟨_, _, _, rfl⟩, Nat.le_refl _, fun _ => ⟨by omega, ?_⟩⟩
   rw [muSet_self]
   refine ⟨ad, scap, rfl, hroom, fun hc0 => ?_, cur1, e, setRow_heap w b cur _ e _ hcur, ?_⟩
   ·rw [had hc0, Nat.zero_mul, Nat.add_zero]
   ·rw [c1, Nat.zero_add]; omega
 ·-- it grows
  obtain ⟨r1, _⟩ := q4 w (Agree.refl w)
  obtain ⟨_, r2⟩ := q4 w.drew (Agree.drew w)
  obtain ⟨_, s2⟩ := o4 w.drew (Agree.drew w)
  rw [hsv] at s2
  have hr := run_append_more (P := P) (w := w) t tx ty e inf zv d hu hx' hd hinf hz sa sl scap (a.eval x) m olds news r1 s2 r2 (by omega) hbp hb
  have hge := grownCap_ge w (sl + m) scap e
  have hcore := core_set (w1 := w.drew.alloc (.cells (olds ++ news ++ Builtin.zeroCells zv.cells (grownCap w (sl + m) scap e - (sl + m))) e)) hc id g (g + 1) inf.size n (sl + m) e f (fun i => bif Nat.blt i sl then f (off + i) else q (i - sl)) hh
   w.heap.size 0 (olds ++ news ++ Builtin.zeroCells zv.cells (grownCap w (sl + m) scap e - (sl + m))) (by omega) (fun he => absurd he (by omega)) (.inl (Nat.le_refl _)) (heap_alloc_new w.drew _)
   (by simp only [Array.size_append, o1, q1, Nat.add_mul]; omega) (fun b hlt _ => heap_alloc_old w.drew _ hlt) (by simp) rfl rfl rfl hlj hnm
   (fun i j pv hi hj => by
    rw [Nat.zero_add]
    exact join_cells o1 q1 o2 q2 hl1 hl2 i j pv hi hj)
  obtain ⟨hfr, hco⟩ := hcore
  refine Acts.of_value (append_exec hsv rfl hr) hK ?_ hco hfr
  show OwnRep _ _ _ _ _ _ _ _
  unfold OwnRep
  rw [List.getElem?_set_self hid]
  refine ⟨⟨_, _, _, rfl⟩, Nat.le_refl _, fun _ => ⟨by omega, ?_⟩⟩
  rw [muSet_self]
  refine ⟨_, grownCap w (sl + m) scap e, rfl, hge, fun _ => by simp, _, e, heap_alloc_new w.drew _, ?_⟩
  simp only [Array.size_append, zeroCells_size, hzs, o1, q1, Nat.zero_add]
  have : grownCap w (sl + m) scap e * inf.size = (sl + m) * inf.size + (grownCap w (sl + m) scap e - (sl + m)) * inf.size := by rw [← Nat.add_mul]; congr 1; omega
  rw [Nat.add_mul] at this
  omega
theorem append_sound (hT : TabOk P T) (hc : Core μ h S w) (ht : ∀ t, VRep μ h S w (env t) (a.tmps.getD t undef)) (args : Array Operand) (ts : Array TypeId) (hp : pop P T (.call ⟨.builtin .append, args, ts⟩) env h K) :
  Acts P ⟨dst, .call ⟨.builtin .append, args, ts⟩, ty, pos, after, guard⟩ a μ h S w K := by
 obtain ⟨args⟩ := args
 obtain ⟨ts⟩ := ts
 simp only [pop] at hp
 split at hp
 ·rename_i s x t tx
  have hs := ev_rep ht s
  have hx := ev_rep ht x
  have main : ∀ (e sz bytes : Nat) (zero : List PV) (d : TypeDesc), T.get t = .slice e sz bytes zero → P.underlying tx = some d → ((∃ e', d = .slice e') ∨ d = .string) → pappend e sz bytes (ev env s) (ev env x) h K →
    Acts P ⟨dst, .call ⟨.builtin .append, #[s, x], #[t, tx]⟩, ty, pos, after, guard⟩ a μ h S w K := by
   intro e sz bytes zero d hti hxu hd hp
   have hsz := (hT.slice _ _ _ _ _ hti).2.1
   unfold pappend at hp
   split at hp
   ·rename_i hes
    rw [hes] at hs
    obtain ⟨_, g, ⟨hb, m, f', rfl, hf', hK⟩, hsrc⟩ := src_sound (P := P) hc _ _ hx sz hsz _ hp
    exact Acts.rows (append_nils hT hc t tx e sz bytes zero d hti hxu hd s x hs.nils_inv m g hsrc hb ⟨_, HEq'.snoc _ _ _ _ _ _ _ hf', hK⟩)
   ·rename_i id gen off len hes
    rw [hes] at hs
    split at hp
    ·rename_i g sz' n e' f hg
     obtain ⟨rfl, hp⟩ := hp
     replace hp := guardB_elim hp
     obtain ⟨hse, hp⟩ := hp
     simp only [Bool.and_eq_true] at hse
     obtain rfl := Nat.eq_of_beq_eq_true hse.1
     obtain rfl := Nat.eq_of_beq_eq_true hse.2
     obtain ⟨m, q, ⟨hb, n', f', rfl, hf', hK⟩, hsrc⟩ := src_sound (P := P) hc _ _ hx sz hsz _ hp
     exact Acts.rows (append_own hT hc t tx e sz bytes zero d hti hxu hd s x id g off len n f (hget_some hg) hs m q hsrc hb ⟨_, HEq'.set _ _ _ _ _ _ _ _ hf', hK⟩)
    ·exact hp.elim
   ·exact hp.elim
  split at hp
  ·rename_i e sz bytes zero e' sz' bytes' zero' hti htx
   exact main e sz bytes zero _ hti (hT.slice _ _ _ _ _ htx).1 (.inl ⟨_, rfl⟩) hp
  ·rename_i e sz bytes zero hti htx
   exact main e sz bytes zero _ hti (hT.str _ htx) (.inr rfl) hp
  ·exact hp.elim
 ·exact hp.elim
theorem VRep.of_arep {pv : PV} {v : Value} (hr : ARep μ h S w pv v) : VRep μ h S w pv v := by
 cases pv with
 | tup ps => exact (show False from hr).elim
 | _ => exact hr
theorem call_sound (hc : Core μ h S w) (ht : ∀ t, VRep μ h S w (env t) (a.tmps.getD t undef)) (fo : Operand) (args : Array Operand) (ts : Array TypeId) (hp : pop P T (.call ⟨.value fo, args, ts⟩) env h K) :
  Acts P ⟨dst, .call ⟨.value fo, args, ts⟩, ty, pos, after, guard⟩ a μ h S w K := by
 have hfo := ev_rep ht fo
 simp only [pop] at hp
 split at hp
 ·rename_i f hef
  rw [hef] at hfo
  replace hp := guardB_elim hp
  obtain ⟨hnt, R, ⟨⟨fn, c, hfn, hbody, hname⟩, hA⟩, hK⟩ := hp
  simp only [List.all_eq_true] at hnt
  have hcall := hA w (args.map a.eval) μ S hc.heap hc.ok (by simp) (fun j pv hj => by
   rw [List.getElem?_map] at hj
   cases hx : args.toList[j]? with
   | none => rw [hx] at hj; cases hj
   | some x =>
    rw [hx] at hj
    injection hj with hj
    subst hj
    refine ⟨a.eval x, by rw [Array.getElem?_map]; simp only [Array.getElem?_toList] at hx; rw [hx]; rfl, ?_⟩
    have hv := ev_rep ht x
    have hne := hnt x (List.mem_of_getElem? hx)
    cases he : ev env x with
    | tup ps => rw [he] at hne; cases hne
    | _ => rw [he] at hv; exact hv)
  intro next Q hn
  have hrun : (execOp a.eval ⟨dst, .call ⟨.value fo, args, ts⟩, ty, pos, after, guard⟩).run P w = .ok (.enter f (args.map a.eval)) w := by
   simp only [execOp, resolve, hfo.fn_inv, Deferred.ofValue, invoke, callFunc, Sem.run_bind, Sem.run_pure, Result.andThen_ok, Array.append_empty, Array.empty_append]
   have hname' : ¬ fn.name = "runtime.NumGoroutine" := by simpa using hname
   simp [program, Sem.run, Result.andThen, hfn, hname', hbody]
  unfold Oper.wp
  rw [hrun]
  show Calls P f (args.map a.eval) w _
  refine hcall.mono fun e w' ⟨v, res, h', μ', S', he, hR, hv, hH, hM, hF⟩ => ?_
  subst he
  exact hn res v h' μ' S' w' (hK res h' hR) hv ⟨hH, hM⟩ hF
 ·rename_i f caps hef
  rw [hef] at hfo
  replace hp := guardB_elim hp
  obtain ⟨hnt, R, ⟨⟨fn, c, hfn, hbody, hname⟩, hA⟩, hK⟩ := hp
  simp only [List.all_eq_true] at hnt
  obtain ⟨vs, hvf, hvl, hvc⟩ := (show CloRep μ h w f caps (a.eval fo) from hfo)
  have hcall := hA w (args.map a.eval ++ vs) μ S hc.heap hc.ok (by simp [hvl]) (fun j pv hj => by
   by_cases hlt : j < args.size
   ·rw [List.getElem?_append_left (by simpa using hlt), List.getElem?_map] at hj
    cases hx : args.toList[j]? with
    | none => rw [hx] at hj; cases hj
    | some x =>
     rw [hx] at hj
     injection hj with hj
     subst hj
     refine ⟨a.eval x, by rw [Array.getElem?_append_left (by simpa using hlt), Array.getElem?_map]; simp only [Array.getElem?_toList] at hx; rw [hx]; rfl, ?_⟩
     have hv := ev_rep ht x
     have hne := hnt x (List.mem_of_getElem? hx)
     cases he : ev env x with
     | tup ps => rw [he] at hne; cases hne
     | _ => rw [he] at hv; exact hv
   ·rw [List.getElem?_append_right (by simpa using Nat.le_of_not_lt hlt), List.getElem?_map] at hj
    simp only [List.length_map, Array.length_toList] at hj
    cases hx : caps[j - args.size]? with
    | none => rw [hx] at hj; cases hj
    | some p =>
     rw [hx] at hj
     injection hj with hj
     subst hj
     obtain ⟨u, q1, q2⟩ := hvc _ p hx
     exact ⟨u, by rw [Array.getElem?_append_right (by simpa using Nat.le_of_not_lt hlt)]; simpa using q1, q2⟩)
  intro next Q hn
  have hrun : (execOp a.eval ⟨dst, .call ⟨.value fo, args, ts⟩, ty, pos, after, guard⟩).run P w = .ok (.enter f (args.map a.eval ++ vs)) w := by
   simp only [execOp, resolve, hvf, Deferred.ofValue, invoke, callFunc, Sem.run_bind, Sem.run_pure, Result.andThen_ok, Array.empty_append]
   have hname' : ¬ fn.name = "runtime.NumGoroutine" := by simpa using hname
   simp [program, Sem.run, Result.andThen, hfn, hname', hbody]
  unfold Oper.wp
  rw [hrun]
  show Calls P f (args.map a.eval ++ vs) w _
  refine hcall.mono fun e w' ⟨v, res, h', μ', S', he, hR, hv, hH, hM, hF⟩ => ?_
  subst he
  exact hn res v h' μ' S' w' (hK res h' hR) hv ⟨hH, hM⟩ hF
 ·exact hp.elim
theorem eqC_true : ∀ (z xs ys : List PV) (b : Bool), eqC z xs ys = some b → b = true → ∀ (j : Nat) (p q : PV), xs[j]? = some p → ys[j]? = some q → p = q ∧ ((∃ k n, p = .int k n) ∨ (∃ b, p = .bool b) ∨ ∃ s, p = .str s)
 | z, xs, ys, b, hk, hb, j, p, q, hp, hq => by
  subst hb
  unfold eqC at hk
  split at hk
  ·simp at hp
  ·obtain ⟨hg, c, hc, e⟩ := eqAnd_elim hk
   simp only [Bool.and_eq_true] at hg
   obtain rfl := kindEq_elim hg.1
   obtain rfl := kindEq_elim hg.2
   have e := e.symm
   simp only [Bool.and_eq_true, beq_iff_eq] at e
   obtain ⟨rfl, rfl⟩ := e
   cases j with
   | zero => simp at hp hq; subst hp; subst hq; exact ⟨rfl, .inl ⟨_, _, rfl⟩⟩
   | succ j => exact eqC_true _ _ _ _ hc rfl j p q (by simpa using hp) (by simpa using hq)
  ·obtain ⟨hg, c, hc, e⟩ := eqAnd_elim hk
   have e := e.symm
   simp only [Bool.and_eq_true, beq_iff_eq] at e
   obtain ⟨rfl, rfl⟩ := e
   cases j with
   | zero => simp at hp hq; subst hp; subst hq; exact ⟨rfl, .inr (.inl ⟨_, rfl⟩)⟩
   | succ j => exact eqC_true _ _ _ _ hc rfl j p q (by simpa using hp) (by simpa using hq)
  ·obtain ⟨hg, c, hc, e⟩ := eqAnd_elim hk
   have e := e.symm
   simp only [Bool.and_eq_true, beq_iff_eq] at e
   obtain ⟨rfl, rfl⟩ := e
   cases j with
   | zero => simp at hp hq; subst hp; subst hq; exact ⟨rfl, .inr (.inr ⟨_, rfl⟩)⟩
   | succ j => exact eqC_true _ _ _ _ hc rfl j p q (by simpa using hp) (by simpa using hq)
  ·cases hk
theorem eqC_len2 : ∀ (z xs ys : List PV) (b : Bool), eqC z xs ys = some b → ys.length = xs.length
 | z, xs, ys, b, hk => by
  unfold eqC at hk
  split at hk
  ·rfl
  ·obtain ⟨_, c, hc, _⟩ := eqAnd_elim hk
   simp [eqC_len2 _ _ _ c hc]
  ·obtain ⟨_, c, hc, _⟩ := eqAnd_elim hk
   simp [eqC_len2 _ _ _ c hc]
  ·obtain ⟨_, c, hc, _⟩ := eqAnd_elim hk
   simp [eqC_len2 _ _ _ c hc]
  ·cases hk
theorem bytes_refl (s : List UInt8) : ((ByteArray.mk ⟨s⟩) == (ByteArray.mk ⟨s⟩)) = true := by
 show ((Array.mk s) == (Array.mk s)) = true
 simp
theorem same_scal (n : Nat) {p : PV} {u v : Value} (hp : (∃ k n, p = .int k n) ∨ (∃ b, p = .bool b) ∨ ∃ s, p = .str s) (hu : SRep1 p u) (hv : CRep μ h S w p v) : Instr.sameBits n u v = true := by
 rcases hp with ⟨k, m, rfl⟩ | ⟨b, rfl⟩ | ⟨s, rfl⟩
 ·have hu : u = _ := hu
  have hv : PRep S w (.int k m) v := hv
  cases hv; subst hu
  cases n <;> simp [Instr.sameBits]
 ·have hu : u = _ := hu
  have hv : PRep S w (.bool b) v := hv
  cases hv; subst hu
  cases n <;> simp [Instr.sameBits]
 ·have hu : u = _ := hu
  have hv : PRep S w (.str s) v := hv
  cases hv; subst hu
  cases n <;> simp [Instr.sameBits, bytes_refl]
theorem key_same {ti : TI} {kv kp : PV} {key ek : Value} (hkv : VRep μ h S w kv key) (hs : SRep kp ek) (hq : keyEq ti kv kp = some true) : Instr.sameBits 10000 ek key = true := by
 unfold keyEq at hq
 split at hq
 ·obtain ⟨hg, c, hc, e⟩ := eqAnd_elim hq
  simp only [Bool.and_eq_true] at hg
  obtain rfl := kindEq_elim hg.1
  obtain rfl := kindEq_elim hg.2
  have e := e.symm
  simp only [Bool.and_eq_true, beq_iff_eq] at e
  obtain ⟨rfl, _⟩ := e
  exact same_scal (μ := μ) (h := h) (S := S) (w := w) 10000 (.inl ⟨_, _, rfl⟩) hs hkv
 ·have hq := Option.some.inj hq
  rw [beq_iff_eq] at hq
  subst hq
  exact same_scal (μ := μ) (h := h) (S := S) (w := w) 10000 (.inr (.inr ⟨_, rfl⟩)) hs hkv
 ·split at hq
  ·rename_i z xs ys _ _
   obtain ⟨vxs, rfl, x1, x2⟩ := (show ARep μ h S w (.agg xs) key from hkv)
   obtain ⟨vys, rfl, y1, y2⟩ := (show ∃ vs : Array Value, ek = .agg vs ∧ vs.size = ys.length ∧ ∀ (j : Nat) (pv : PV), ys[j]? = some pv → ∃ u : Value, vs[j]? = some u ∧ SRep1 pv u from hs)
   have hl := eqC_len2 _ _ _ _ hq
   rw [show 10000 = 9999 + 1 from rfl, Instr.sameBits]
   rw [Bool.and_eq_true]
   refine ⟨by rw [beq_iff_eq, x1, y1, hl], List.all_eq_true.2 (fun p hp => ?_)⟩
   obtain ⟨j, hj, rfl⟩ := List.mem_iff_getElem.1 hp
   have hj' := hj
   rw [List.length_zip, Array.length_toList, Array.length_toList] at hj'
   have hjx : j < xs.length := by omega
   have hjy : j < ys.length := by omega
   obtain ⟨e1, e2⟩ := eqC_true _ _ _ _ hq rfl j _ _ (List.getElem?_eq_getElem hjx) (List.getElem?_eq_getElem hjy)
   obtain ⟨u, hu, hu2⟩ := y2 j _ (List.getElem?_eq_getElem hjy)
   obtain ⟨v, hv, hv2⟩ := x2 j _ (List.getElem?_eq_getElem hjx)
   rw [← e1] at hu2
   have := same_scal 9999 e2 hu2 hv2
   rw [List.getElem_zip]
   simp only [Array.getElem_toList]
   have h1 : vys[j]'(by omega) = u := by rw [Array.getElem?_eq_getElem (by omega)] at hu; exact Option.some.inj hu
   have h2 : vxs[j]'(by omega) = v := by rw [Array.getElem?_eq_getElem (by omega)] at hv; exact Option.some.inj hv
   rw [h1, h2]
   exact this
  ·cases hq
 ·cases hq
theorem core_map {w1 : World} (hc : Core μ h S w) (id g sz n n1 : Nat) (e : TypeId) (f f1 : Nat → List PV) (hh : h[id]? = some (AObj.row g sz n e f)) (b base : Nat) (es : Array MapEntry) (c : Nat) (hmu : μ id = some (b, base))
  (hb : w.heap[b]? = some (.map es c)) (es1 : Array MapEntry) (c1 : Nat) (hw : w1.heap[b]? = some (.map es1 c1)) (hsame : ∀ b', b' ≠ b → w1.heap[b']? = w.heap[b']?) (hsize : w1.heap.size = w.heap.size) (hos : w1.os = w.os)
  (htape : w1.tape = w.tape) (hout : w1.output = w.output) (hl : ∀ i, i < n1 → (f1 i).length = sz)
  (hr : es1.size = n1 ∧ ∀ i, i < n1 → ∃ (kp vp : PV) (en : MapEntry), f1 i = [kp, vp] ∧ scalA kp = true ∧ scalA vp = true ∧ es1[i]? = some en ∧ SRep kp en.key ∧ SRep vp en.val) :
  Fr μ h S w μ (h.set id (.row (g + 1) sz n1 e f1)) S w1 ∧ Core μ (h.set id (.row (g + 1) sz n1 e f1)) S w1 := by
 have hid : id < h.length := (List.getElem?_eq_some_iff.1 hh).1
 have get_self : (h.set id (AObj.row (g + 1) sz n1 e f1))[id]? = some (AObj.row (g + 1) sz n1 e f1) := by simp [hid]
 have get_ne : ∀ j, j ≠ id → (h.set id (AObj.row (g + 1) sz n1 e f1))[j]? = h[j]? := fun j hj => by rw [List.getElem?_set_ne (Ne.symm hj)]
 have hob : Owned μ h b := ⟨id, g, sz, n, e, f, base, hh, hmu⟩
 have hown : ∀ b', Owned μ (h.set id (AObj.row (g + 1) sz n1 e f1)) b' → Owned μ h b' := fun b' hb' => by
  obtain ⟨j, gj, szj, nj, ej, fj, basej, hj, hm⟩ := hb'
  by_cases hji : j = id
  ·subst hji; exact ⟨j, g, sz, n, e, f, basej, hh, hm⟩
  ·rw [get_ne j hji] at hj; exact ⟨j, gj, szj, nj, ej, fj, basej, hj, hm⟩
 have hfr : Fr μ h S w μ (h.set id (.row (g + 1) sz n1 e f1)) S w1 := by
  refine ⟨by simp, fun b' _ hno => hsame b' (fun he => hno (he ▸ hob)), fun _ hb => hb, fun _ hb => .inl hb, fun b' hb' => .inl (hown b' hb'), by omega, hos, htape, hout, fun j gj szj nj ej fj hj => ?_, fun j hj => ?_, fun b' k _ hcap => ?_, fun j gj szj nj ej fj b' base' hj hm hmb => ?_⟩
  ·by_cases hji : j = id
   ·subst hji
    rw [hh] at hj
    injection hj with hj
    injection hj with e1 e2 e3 e4 e5
    subst e1 e2 e3 e4 e5
    rw [get_self]
    exact ⟨by omega, fun he => absurd he (by omega)⟩
   ·rw [get_ne j hji, hj]
    exact ⟨Nat.le_refl _, fun _ => ⟨rfl, rfl, rfl, rfl⟩⟩
  ·have hji : j ≠ id := by rintro rfl; rw [hh] at hj; cases hj
   rw [get_ne j hji]; exact hj
  ·have hne : b' ≠ b := by
    rintro rfl
    exact hcap.notMap ⟨es, c, hb⟩
   exact CapOk.of_same (hsame b' hne) hcap
  ·have hex : ∃ g' sz' n' e' f', (h.set id (AObj.row (g + 1) sz n1 e f1))[j]? = some (AObj.row g' sz' n' e' f') := by
    by_cases hji : j = id
    ·subst hji; exact ⟨_, _, _, _, _, get_self⟩
    ·exact ⟨_, _, _, _, _, (get_ne j hji).trans hj⟩
   refine ⟨?_, .inr ⟨hex, hm⟩⟩
   by_cases hbb : b' = b
   ·subst hbb; exact ⟨es1, c1, hw⟩
   ·obtain ⟨es2, c2, q⟩ := hmb
    exact ⟨es2, c2, (hsame b' hbb).trans q⟩
 refine ⟨hfr, ⟨fun j gj szj nj ej fj hj => ?_, ⟨fun b hb => hc.ok.apart b (hown b hb), fun b hb => by rw [hsize]; exact hc.ok.lt b (hown b hb), fun b hb => by rw [hsize]; exact hc.ok.slt b hb, ?_, hc.ok.amb_fr hfr⟩⟩⟩
 ·by_cases hji : j = id
  ·subst hji
   rw [get_self] at hj
   injection hj with hj
   injection hj with e1 e2 e3 e4 e5
   subst e1 e2 e3 e4 e5
   refine ⟨hl, ?_⟩
   rw [hmu]
   exact ⟨_, hw, hr⟩
  ·rw [get_ne j hji] at hj
   obtain ⟨h1, h2⟩ := hc.heap j gj szj nj ej fj hj
   refine ⟨h1, ?_⟩
   cases hm : μ j with
   | none => rw [hm] at h2; exact h2
   | some p =>
    obtain ⟨b', base'⟩ := p
    rw [hm] at h2
    obtain ⟨o, q1, q2⟩ := h2
    have hbb : b' ≠ b := by
     rintro rfl
     exact hji (hc.ok.inj j id _ _ _ _ _ _ _ _ _ _ _ _ _ hj hh hm hmu)
    exact ⟨o, (hsame b' hbb).trans q1, q2.mono (fun _ _ _ _ _ _ hr => hr.fr hfr hc.ok)⟩
 ·intro i j gi szi ni ei fi gj szj nj ej fj b' o o' hi hj hmi hmj
  have back : ∀ k gk szk nk ek fk, (h.set id (AObj.row (g + 1) sz n1 e f1))[k]? = some (AObj.row gk szk nk ek fk) → ∃ g' sz' n' e' f', h[k]? = some (AObj.row g' sz' n' e' f') := fun k gk szk nk ek fk hk => by
   by_cases hki : k = id
   ·subst hki; exact ⟨_, _, _, _, _, hh⟩
   ·rw [get_ne k hki] at hk; exact ⟨_, _, _, _, _, hk⟩
  obtain ⟨_, _, _, _, _, h1⟩ := back _ _ _ _ _ _ hi
  obtain ⟨_, _, _, _, _, h2⟩ := back _ _ _ _ _ _ hj
  exact hc.ok.inj i j _ _ _ _ _ _ _ _ _ _ _ _ _ h1 h2 hmi hmj
theorem core_seal {w1 : World} (hc : Core μ h S w) (ha : Agree w w1) (b : Nat) (hb : w.heap.size ≤ b) (hb1 : b < w1.heap.size) : Fr μ h S w μ h (fun x => S x ∨ x = b) w1 ∧ Core μ h (fun x => S x ∨ x = b) w1 := by
 have hfr : Fr μ h S w μ h (fun x => S x ∨ x = b) w1 := by
  refine ⟨Nat.le_refl _, fun b' hb' _ => ha.blocks b' hb', fun _ hs => .inl hs, fun b' hb' => ?_, fun _ ho => .inl ho, ha.size, ha.os, ha.tape, ha.output, fun j gj szj nj ej fj hj => ?_, fun _ hd => hd, fun b' k ho hcap => ?_, fun j gj szj nj ej fj b' base' hj hm hmb => ?_⟩
  ·rcases hb' with hb' | rfl
   ·exact .inl hb'
   ·exact .inr (.inr hb)
  ·rw [hj]; exact ⟨Nat.le_refl _, fun _ => ⟨rfl, rfl, rfl, rfl⟩⟩
  ·exact CapOk.of_same (ha.blocks b' (hc.ok.lt b' ho)) hcap
  ·obtain ⟨es, c, q⟩ := hmb
   exact ⟨⟨es, c, (ha.blocks b' (hc.ok.lt b' ⟨_, _, _, _, _, _, _, hj, hm⟩)).trans q⟩, .inr ⟨⟨_, _, _, _, _, hj⟩, hm⟩⟩
 refine ⟨hfr, ⟨fun j gj szj nj ej fj hj => ?_, ⟨fun b' ho hs => ?_, fun b' ho => Nat.lt_of_lt_of_le (hc.ok.lt b' ho) ha.size, fun b' hs => ?_, hc.ok.inj, hc.ok.amb_fr hfr⟩⟩⟩
 ·obtain ⟨h1, h2⟩ := hc.heap j gj szj nj ej fj hj
  refine ⟨h1, ?_⟩
  cases hm : μ j with
  | none => rw [hm] at h2; exact h2
  | some p =>
   obtain ⟨b', base'⟩ := p
   rw [hm] at h2
   obtain ⟨o, q1, q2⟩ := h2
   exact ⟨o, (ha.blocks b' (hc.ok.lt b' ⟨_, _, _, _, _, _, _, hj, hm⟩)).trans q1, q2.mono (fun _ _ _ _ _ _ hr => hr.fr hfr hc.ok)⟩
 ·rcases hs with hs | rfl
  ·exact hc.ok.apart b' ho hs
  ·exact absurd (hc.ok.lt b' ho) (by omega)
 ·rcases hs with hs | rfl
  ·exact Nat.lt_of_lt_of_le (hc.ok.slt b' hs) ha.size
  ·exact hb1
theorem convert_sound2 (hT : TabOk P T) (hc : Core μ h S w) (ht : ∀ t, VRep μ h S w (env t) (a.tmps.getD t undef)) (s d : Nat) (x : Operand) (hp : pop P T (.convert s d x) env h K) : Acts P ⟨dst, .convert s d x, ty, pos, after, guard⟩ a μ h S w K := by
 simp only [pop] at hp
 split at hp
 ·rename_i e sz by' z b hs hd hx
  split at hp
  ·rename_i he
   obtain ⟨f', hf', hK⟩ := hp
   have hv := ev_rep ht x
   rw [hx] at hv
   have hrun := Lib.run_convert_string_bytes (P := P) w s d e ⟨⟨b⟩⟩ (hT.str _ hs) (hT.slice _ _ _ _ _ hd).1 (hT.int _ _ he)
   have hag : Agree w (Lib.bytesWorld w e ⟨⟨b⟩⟩) := by
    have := Lib.bytesWorld_below w e ⟨⟨b⟩⟩
    exact ⟨this.block, this.size, this.os, this.tape, this.output⟩
   obtain ⟨hfr, hco⟩ := core_seal hc hag w.heap.size (Nat.le_refl _) (by rw [Lib.bytesWorld_size]; omega)
   refine Acts.of_value (val := .slice (some ⟨w.heap.size, 0, none⟩) b.length (grownCap w b.length 0 e)) (run_v_of rfl ?_) hK ?_ hco hfr
   ·rw [hv.str_inv]
    exact hrun
   ·show PRep _ _ (.slc 1 b.length f') _
    refine .slc 1 b.length f' w.heap.size 0 _ (fun i _ => .int .u8 (b.getD i 0).toNat) (.inr rfl) (fun i hi => by rw [hf' i hi]; rfl) ?_ (fun i j pv hi hj => ?_) (fun i j pv hi hj => ?_)
    ·have := grownCap_ge w b.length 0 e; omega
    ·rw [hf' i hi] at hj
     have hj0 : j = 0 := by
      have := (List.getElem?_eq_some_iff.1 hj).1
      simpa using this
     subst hj0
     have := Lib.bytesWorld_cell w e ⟨⟨b⟩⟩ i (by show i < b.length; exact hi)
     rw [show 0 + i * 1 + 0 = i by omega]
     exact this
    ·rw [hf' i hi] at hj
     have hj0 : j = 0 := by
      have := (List.getElem?_eq_some_iff.1 hj).1
      simpa using this
     subst hj0
     simp at hj
     subst hj
     exact .int _ _
  ·exact hp.elim
 ·exact .of_still hc (spop_sound hT hc.heap ht hp)
theorem makeMap_sound (hT : TabOk P T) (hc : Core μ h S w) (t : Nat) (hp : pop P T (.makeMap t none) env h K) : Acts P ⟨dst, .makeMap t none, ty, pos, after, guard⟩ a μ h S w K := by
 simp only [pop] at hp
 split at hp
 ·rename_i kt et zv hti
  obtain ⟨f', hK⟩ := hp
  obtain ⟨hfr, hco⟩ := core_newO (w1 := w.alloc (.map #[] 0)) hc 2 0 t f' (some (w.heap.size, 0)) ⟨Nat.le_refl _, _, heap_alloc_new w _, rfl, fun i hi => absurd hi (Nat.not_lt_zero _)⟩ (alloc_agree w _) (fun i hi => absurd hi (Nat.not_lt_zero _))
  refine Acts.of_value (val := .map (some w.heap.size)) (run_v_of rfl rfl) hK ?_ hco hfr
  show OmpRep _ _ _ _ _
  unfold OmpRep
  rw [List.getElem?_append_right (Nat.le_refl _), Nat.sub_self]
  exact ⟨⟨_, rfl⟩, w.heap.size, 0, muSet_self _ _ _, ⟨_, _, heap_alloc_new w _⟩, rfl⟩
 ·exact hp.elim
theorem eqC_flat : ∀ (z xs ys : List PV) (b : Bool), eqC z xs ys = some b → xs.all scal1 = true ∧ xs.all storable1 = true
 | z, xs, ys, b, hk => by
  unfold eqC at hk
  split at hk
  ·exact ⟨rfl, rfl⟩
  ·obtain ⟨_, c, hc, _⟩ := eqAnd_elim hk
   obtain ⟨h1, h2⟩ := eqC_flat _ _ _ c hc
   simp [scal1, storable1, h1, h2]
  ·obtain ⟨_, c, hc, _⟩ := eqAnd_elim hk
   obtain ⟨h1, h2⟩ := eqC_flat _ _ _ c hc
   simp [scal1, storable1, h1, h2]
  ·obtain ⟨_, c, hc, _⟩ := eqAnd_elim hk
   obtain ⟨h1, h2⟩ := eqC_flat _ _ _ c hc
   simp [scal1, storable1, h1, h2]
  ·cases hk
theorem key_scal {ti : TI} {kv kp : PV} {q : Bool} (h0 : keyEq ti kv kp = some q) : scalA kv = true ∧ storable kv = true := by
 unfold keyEq at h0
 split at h0
 ·exact ⟨rfl, rfl⟩
 ·exact ⟨rfl, rfl⟩
 ·split at h0
  ·exact eqC_flat _ _ _ _ h0
  ·cases h0
 ·cases h0
theorem srep1_of {pv : PV} {v : Value} (hs : scal1 pv = true) (hj : storable1 pv = true) (hv : CRep μ h S w pv v) : SRep1 pv v := by
 cases pv with
 | int k n => have hv : PRep S w (.int k n) v := hv; cases hv; rfl
 | bool b => have hv : PRep S w (.bool b) v := hv; cases hv; rfl
 | str s => have hv : PRep S w (.str s) v := hv; cases hv; rfl
 | junk => cases hj
 | _ => cases hs
theorem srep_of {pv : PV} {v : Value} (hs : scalA pv = true) (hj : storable pv = true) (hv : VRep μ h S w pv v) : SRep pv v := by
 cases pv with
 | agg cs =>
  obtain ⟨vs, rfl, h1, h2⟩ := (show ARep μ h S w (.agg cs) v from hv)
  refine ⟨vs, rfl, h1, fun j pv hj' => ?_⟩
  obtain ⟨u, q1, q2⟩ := h2 j pv hj'
  have hm := List.mem_of_getElem? hj'
  exact ⟨u, q1, srep1_of (List.all_eq_true.1 hs pv hm) (List.all_eq_true.1 hj pv hm) q2⟩
 | int k n => exact srep1_of (μ := μ) (h := h) (S := S) (w := w) (pv := .int k n) hs hj hv
 | bool b => exact srep1_of (μ := μ) (h := h) (S := S) (w := w) (pv := .bool b) hs hj hv
 | str s => exact srep1_of (μ := μ) (h := h) (S := S) (w := w) (pv := .str s) hs hj hv
 | junk => cases hj
 | _ => cases hs
theorem run_keyStays {old new : Value} {w' : World} (h1 : Instr.sameBits 10000 old new = true) : (Instr.keyThatStays old new).run P w' = .ok new w' := by
 simp [Instr.keyThatStays, h1]
theorem heap_setb {w : World} {b : Nat} {o o' : Obj} (hb : w.heap[b]? = some o) : ({ w with heap := w.heap.setIfInBounds b o' } : World).heap[b]? = some o' := by
 have := (Array.getElem?_eq_some_iff.1 hb).1
 simp [this]
theorem heap_setne {w : World} {b b' : Nat} {o' : Obj} (hb : b' ≠ b) : ({ w with heap := w.heap.setIfInBounds b o' } : World).heap[b']? = w.heap[b']? := by
 simp [Array.getElem?_setIfInBounds, Ne.symm hb]
theorem mapUpdate_sound (hT : TabOk P T) (hc : Core μ h S w) (ht : ∀ t, VRep μ h S w (env t) (a.tmps.getD t undef)) (t : Nat) (m k x : Operand) (hp : pop P T (.mapUpdate t m k x) env h K) :
  Acts P ⟨dst, .mapUpdate t m k x, ty, pos, after, guard⟩ a μ h S w K := by
 have hm := ev_rep ht m
 have hk := ev_rep ht k
 have hx := ev_rep ht x
 simp only [pop] at hp
 split at hp
 ·rename_i kt et zv id hti hem
  rw [hem] at hm
  split at hp
  ·rename_i g sz n e f hgt
   replace hp := guardB_elim (force_elim (force_elim hp))
   obtain ⟨hcond, n', f', hup, hK⟩ := hp
   simp only [Bool.and_eq_true] at hcond
   obtain ⟨⟨⟨hkk, hvs⟩, hvst⟩, hsz2⟩ := hcond
   obtain rfl := (Nat.eq_of_beq_eq_true hsz2)
   obtain ⟨hu, inf, z, hinf, hz, hsz, hsc, hst⟩ := hT.map _ _ _ _ hti
   have hh := hget_some hgt
   obtain ⟨bl, base, es, c, hmu, ex, hb, hn, hent⟩ := map_open hc.heap hh hm.omp_inv
   obtain ⟨q0, h0⟩ := Option.isSome_iff_exists.1 hkk
   obtain ⟨d, s, hd, hck, hcmp⟩ := key_cmp hT hk h0
   obtain ⟨hks, hkst⟩ := key_scal h0
   have hkr := srep_of hks hkst hk
   have hvr := srep_of hvs hvst hx
   have none_of : ∀ m, m ≤ n → MNone (T.get kt) f m (ev env k) → ∀ j, j < m → ∀ y : MapEntry, es.toList[j]? = some y → KeyCmp P kt d s (a.eval k) y.key false := fun m hmn hM j hj y hy => by
    obtain ⟨kp, vp, h1, h2⟩ := hM j hj
    obtain ⟨kp', vp', en, h3, _, _, h4, h5, _⟩ := hent j (by omega)
    rw [h1] at h3
    injection h3 with e1 e2
    subst e1
    have : y = en := by rw [Array.getElem?_toList] at hy; exact Option.some.inj (hy.symm.trans h4)
    subst this
    exact hcmp kp y.key false h5 h2
   have main : ∀ (es1 : Array MapEntry) (c1 : Nat), (Instr.mapUpdate t (.map (some bl)) (a.eval k) (a.eval x)).run P w = .ok () { w with heap := w.heap.setIfInBounds bl (.map es1 c1) } →
     (es1.size = n' ∧ ∀ i, i < n' → ∃ (kp vp : PV) (en : MapEntry), f' i = [kp, vp] ∧ scalA kp = true ∧ scalA vp = true ∧ es1[i]? = some en ∧ SRep kp en.key ∧ SRep vp en.val) →
     Acts P ⟨dst, .mapUpdate t m k x, ty, pos, after, guard⟩ a μ h S w K := by
    intro es1 c1 hrun hr
    obtain ⟨hfr, hco⟩ := core_map (w1 := { w with heap := w.heap.setIfInBounds bl (.map es1 c1) }) hc id g 2 n n' e f f' hh bl base es c hmu hb es1 c1 (heap_setb hb) (fun b' hb' => heap_setne hb') (by simp) rfl rfl rfl
     (fun i hi => by obtain ⟨kp, vp, en, h1, _⟩ := hr.2 i hi; rw [h1]; rfl) hr
    refine Acts.of_skip ?_ hK hco hfr
    have e1 : (execOp a.eval ⟨dst, .mapUpdate t m k x, ty, pos, after, guard⟩) = (do Instr.mapUpdate t (a.eval m) (a.eval k) (a.eval x); pure .skip : Sem Next) := rfl
    rw [e1, ex]
    simp only [Sem.run_bind, hrun, Result.andThen, Sem.run_pure]
   rcases hup with ⟨i0, r, ⟨hi0, hM, kp0, hf0, hq0⟩, hn1, hf1, hf2⟩ | ⟨hM, hn1, hf1, hf2⟩
   ·obtain ⟨kp', vp', en, h3, h8, h6, h4, h5, h7⟩ := hent i0 hi0
    rw [hf0] at h3
    injection h3 with e1 e2
    injection e2 with e2 _
    subst e1 e2
    have hfind := findKey_at (P := P) (w' := w) hd es.toList i0 en (none_of i0 (by omega) hM) (by rw [Array.getElem?_toList]; exact h4) (hcmp kp0 en.key true h5 hq0)
    have hstay := run_keyStays (P := P) (w' := w) (key_same hk h5 hq0)
    refine main (es.modify i0 fun e => { e with key := a.eval k, val := a.eval x }) c ?_ ⟨by simp [hn, hn1], fun i hi => ?_⟩
    ·simp [Instr.mapUpdate, run_underlying hu, run_getObj_map w bl es c hb, hck, hfind, h4, hstay, MapKept.run_setObj_map _ hb]
    ·by_cases hii : i = i0
     ·subst hii
      refine ⟨_, _, { en with key := a.eval k, val := a.eval x }, hf1, hks, hvs, ?_, hkr, hvr⟩
      rw [Array.getElem?_modify, if_pos rfl, h4]
      rfl
     ·obtain ⟨kp1, vp1, en1, g1, g2, g3, g4, g5, g6⟩ := hent i (by omega)
      refine ⟨kp1, vp1, en1, by rw [hf2 i (by omega) hii, g1], g2, g3, ?_, g5, g6⟩
      rw [Array.getElem?_modify, if_neg (Ne.symm hii), g4]
   ·have hfind := findKey_none (P := P) (w' := w) hd es.toList (fun j y hy => none_of n (Nat.le_refl _) hM j (by
      have := (List.getElem?_eq_some_iff.1 hy).1
      rw [← hn]; simpa using this) y hy)
    refine main (es.push { key := a.eval k, val := a.eval x, born := c }) (c + 1) ?_ ⟨by simp [hn, hn1], fun i hi => ?_⟩
    ·simp [Instr.mapUpdate, run_underlying hu, run_getObj_map w bl es c hb, hck, hfind, MapKept.run_setObj_map _ hb]
    ·by_cases hii : i = n
     ·subst hii
      refine ⟨_, _, { key := a.eval k, val := a.eval x, born := c }, hf1, hks, hvs, ?_, hkr, hvr⟩
      rw [← hn]
      simp
     ·obtain ⟨kp1, vp1, en1, g1, g2, g3, g4, g5, g6⟩ := hent i (by omega)
      refine ⟨kp1, vp1, en1, by rw [hf2 i (by omega), g1], g2, g3, ?_, g5, g6⟩
      rw [Array.getElem?_push, if_neg (by omega), g4]
  ·exact hp.elim
 ·exact hp.elim
theorem nilcmp_sound (hT : TabOk P T) (hc : Core μ h S w) (ht : ∀ t, VRep μ h S w (env t) (a.tmps.getD t undef)) (bo : BinOp) (t t' : TypeId) (x y : Operand) (hp : pop P T (.binOp bo t x y t') env h K) :
  Acts P ⟨dst, .binOp bo t x y t', ty, pos, after, guard⟩ a μ h S w K := by
 simp only [pop] at hp
 split at hp
 ·rename_i e sz by' z sz' n f hti hx hy
  obtain ⟨h1, h2⟩ := hp
  have rx := ev_rep ht x
  have ry := ev_rep ht y
  rw [hx] at rx
  rw [hy] at ry
  have rx : PRep S w (.slc sz' n f) (a.eval x) := rx
  have ry : PRep S w .nils (a.eval y) := ry
  have ey : a.eval y = .slice none 0 0 := by
   generalize a.eval y = v at ry
   cases ry
   rfl
  obtain ⟨ad, c, ex, hn⟩ : ∃ ad c, a.eval x = .slice ad n c ∧ (ad = none → n = 0) := by
   generalize a.eval x = v at rx
   cases rx with
   | slc0 _ _ ad c => exact ⟨ad, c, rfl, fun _ => rfl⟩
   | slc _ _ _ b off c vf _ _ _ _ _ => exact ⟨_, c, rfl, fun h0 => by cases h0⟩
  obtain ⟨hu, _⟩ := hT.slice _ _ _ _ _ hti
  have hg : eqGuard .eql t x y (a.eval x) (a.eval y) = pure () := by rw [ex]; apply eqGuard_at_slice
  have hK : K (.bool ad.isNone) h := by
   cases ad with
   | none => exact h1 (hn rfl)
   | some _ => exact h2
  refine .of_still hc (.mk (v := .bool ad.isNone) hK (PRep.bool _) fun w' _ => run_v (run_bin hg ?_))
  rw [ex, ey]
  first | exact Lib.run_eql_slice_nil _ _ _ _ _ _ _ _ hu | exact run_eql_slice_nil _ _ _ _ _ _ hu
 ·exact .of_still hc (spop_sound hT hc.heap ht hp)
theorem blt_ff {i j : Nat} (h : Nat.blt i j = false) : j ≤ i := by
 rcases Nat.lt_or_ge i j with hl | hl
 ·have : Nat.blt i j = true := by simpa using hl
  rw [this] at h; cases h
 ·exact hl
theorem copy_exec {s x : Operand} {t tx : TypeId} {sv xv v' : Value} {w' : World} (hs : a.eval s = sv) (hx : a.eval x = xv) (hr : (Builtin.copy_ #[t, tx] ty #[sv, xv]).run P w = .ok v' w') :
  (execOp a.eval ⟨dst, .call ⟨.builtin .copy, #[s, x], #[t, tx]⟩, ty, pos, after, guard⟩).run P w = .ok (.value v') w' := by
 simp only [execOp, resolve, invoke, builtin, Sem.run_bind, Sem.run_pure, Result.andThen_ok, List.map_toArray, List.map_cons, List.map_nil, hs, hx, hr]
theorem run_copy (t tx ty e : TypeId) (i : TypeInfo) (ht : P.underlying t = some (.slice e)) (hi : P.info? e = some i)
  (sa : Option Addr) (sLen sCap : Nat) (xv : Value) (m : Nat) (news : Array Value) (w' : World) (hlen : (Builtin.lenOf xv).run P w = .ok m w) (hfc : (Builtin.firstCells i.size m xv).run P w = .ok news w) (hle : m ≤ sLen)
  (hst : match sa with | some a => (storeCells a news.toList).run P w = .ok () w' | none => w' = w) :
  (Builtin.copy_ #[t, tx] ty #[.slice sa sLen sCap, xv]).run P w = .ok (.int .i64 m) w' := by
 have hm : Nat.min m sLen = m := Nat.min_eq_left hle
 cases sa with
 | none =>
  have hst : w' = w := hst
  subst hst
  simp [Builtin.copy_, run_underlying ht, sizeOf, typeInfo, hi, hlen, hm, hfc, goInt]
 | some a =>
  have hst : (storeCells a news.toList).run P w = .ok () w' := hst
  simp [Builtin.copy_, run_underlying ht, sizeOf, typeInfo, hi, hlen, hm, hfc, hst, goInt]
theorem copy_own (hT : TabOk P T) (hc : Core μ h S w) (t tx e sz bytes : Nat) (zero : List PV) (hti : T.get t = .slice e sz bytes zero)
  (s x : Operand) (id g off len n : Nat) (f : Nat → List PV) (hh : h[id]? = some (AObj.row g sz n e f)) (hs : VRep μ h S w (.own id g off len) (a.eval s)) (m : Nat) (q : Nat → List PV) (hsrc : Src P μ h S w (a.eval x) sz m q)
  (hb : m ≤ len) (hK : ∃ h2, HEq' (h.set id (.row g sz n e (cpF f off m q))) h2 ∧ K (.int .i64 m) h2) :
  Acts P ⟨dst, .call ⟨.builtin .copy, #[s, x], #[t, tx]⟩, ty, pos, after, guard⟩ a μ h S w K := by
 obtain ⟨hu, hsz, inf, zv, hinf, hisz, hib, hz, hzs, hzl, hzc⟩ := hT.slice _ _ _ _ _ hti
 subst hisz hib
 have hid : id < h.length := (List.getElem?_eq_some_iff.1 hh).1
 obtain ⟨hl2, news, q1, q2, q3, q4⟩ := hsrc
 have hr0 := hs.own_inv
 unfold OwnRep at hr0
 rw [hh] at hr0
 obtain ⟨⟨sa, sl, scap, hsv⟩, _, hr0⟩ := hr0
 obtain ⟨hle, hr0⟩ := hr0 rfl
 obtain ⟨hl1, olds, o1, o2, o3, o4⟩ := own_cells (P := P) hc id g off len inf.size n e f hh _ hs hsz
 have hsl : sl = len := by
  obtain ⟨e1, _⟩ := o4 w (Agree.refl w)
  rw [hsv] at e1
  simp [Builtin.lenOf] at e1
  exact e1
 subst hsl
 obtain ⟨hl, hcell⟩ := hc.heap id g _ n e f hh
 obtain ⟨r1, r2⟩ := q4 w (Agree.refl w)
 refine Acts.rows ?_
 rcases Nat.eq_zero_or_pos m with h0 | h0
 ·subst h0
  have hn : news = #[] := Array.eq_empty_of_size_eq_zero (by simpa using q1)
  subst hn
  have hr := run_copy (P := P) (w := w) t tx ty e inf hu hinf sa sl scap (a.eval x) 0 #[] w r1 r2 (Nat.zero_le _) (by cases sa <;> rfl)
  obtain ⟨h2, he, hK⟩ := hK
  refine Acts.of_value (h' := h) (μ' := μ) (S' := S) (copy_exec hsv rfl hr) ⟨h2, ?_, hK⟩ (.int _ _) hc Fr.refl
  have e0 : cpF f off 0 q = f := by
   funext i
   unfold cpF
   cases hno : Nat.blt i off
   ·rfl
   ·rfl
  rw [e0] at he
  have es : h.set id (AObj.row g inf.size n e f) = h := by
   refine List.ext_getElem? fun j => ?_
   rw [List.getElem?_set]
   by_cases hj : id = j
   ·subst hj; rw [if_pos rfl, if_pos hid, hh]
   ·rw [if_neg hj]
  rwa [es] at he
 ·cases hmu : μ id with
  | none =>
   rw [hmu] at hr0
   rw [hsv] at hr0
   injection hr0 with e1 e2 e3
   omega
  | some p =>
   obtain ⟨b, base⟩ := p
   rw [hmu] at hr0 hcell
   obtain ⟨ad, cap, hv, hlc, had, hcap⟩ := hr0
   have hnm : ∀ b base, μ id = some (b, base) → ¬ MapBlk w b := fun b' base' hmu' => by
    rw [hmu] at hmu'
    injection hmu' with hmu'
    injection hmu' with h1 h2
    subst h1
    exact hcap.notMap
   rw [hsv] at hv
   injection hv with e1 e2 e3
   subst e1 e3
   obtain ⟨cur, hcur, hfit, hcells⟩ := HeapRep.cells hcap hcell
   have hcap' : base + (off + scap) * inf.size ≤ cur.size := by
    obtain ⟨cur', e', p1, p2⟩ := hcap
    rw [hcur] at p1
    injection p1 with p1
    injection p1 with p1 _ _
    subst p1
    exact p2
   rw [Nat.add_mul] at hcap'
   have had := had (by omega)
   subst had
   have hmul : m * inf.size ≤ scap * inf.size := Nat.mul_le_mul_right _ (by omega)
   have hst := run_storeCells_at P b (base + off * inf.size) e news.toList 0 cur w hcur (by simp; omega) q3
   rw [Nat.add_zero] at hst
   generalize hc1 : (cur.toList.take (base + off * inf.size) ++ news.toList ++ cur.toList.drop (base + off * inf.size + news.toList.length)).toArray = cur1 at hst
   have c1 : cur1.size = cur.size := by subst hc1; simp; omega
   have c3 : ∀ k : Nat, cur1[k]? = if base + off * inf.size ≤ k ∧ k < base + off * inf.size + m * inf.size then news[k - (base + off * inf.size)]? else cur[k]? := fun k => by
    subst hc1
    have hsp := splice_get cur.toList news.toList (base + off * inf.size) k (by simp; omega)
    rw [List.getElem?_toArray, hsp]
    simp only [Array.getElem?_toList, Array.length_toList, q1]
   have hr := run_copy (P := P) (w := w) t tx ty e inf hu hinf (some ⟨b, base + off * inf.size, none⟩) sl scap (a.eval x) m news (w.setRow b cur1) r1 r2 hb hst
   have hlj : ∀ i, i < n → (cpF f off m q i).length = inf.size := fun i hi => by
    unfold cpF
    cases hb1 : Nat.blt i off
    ·cases hb2 : Nat.blt i (off + m)
     ·exact hl i hi
     ·have hb1' := blt_ff hb1
      have hb2' : i < off + m := by simpa using hb2
      exact hl2 _ (by omega)
    ·exact hl i hi
   have hcore := core_set (w1 := w.setRow b cur1) hc id g g inf.size n n e f (cpF f off m q) hh b base cur1 (Nat.le_refl _) (fun _ => ⟨hmu, rfl⟩)
    (.inr ⟨base, cur, hmu, hcur, c1.symm⟩) (setRow_heap w b cur _ e _ hcur) (by rw [c1]; exact hfit) (fun b' _ hne => setRow_other w b b' _ hne) (by simp) rfl rfl rfl hlj hnm
    (fun i j pv hi hj => by
     have hjs : j < inf.size := by rw [← hlj i hi]; exact (List.getElem?_eq_some_iff.1 hj).1
     rw [c3]
     have e1 : i * inf.size + inf.size = (i + 1) * inf.size := by rw [Nat.add_mul, Nat.one_mul]
     unfold cpF at hj
     cases hb1 : Nat.blt i off
     ·rw [hb1] at hj
      have hb1' : off ≤ i := blt_ff hb1
      have e2 : off * inf.size ≤ i * inf.size := Nat.mul_le_mul_right _ hb1'
      cases hb2 : Nat.blt i (off + m)
      ·rw [hb2] at hj
       simp only [cond_false] at hj
       have hb2' : off + m ≤ i := blt_ff hb2
       have e3 : (off + m) * inf.size ≤ i * inf.size := Nat.mul_le_mul_right _ hb2'
       rw [Nat.add_mul] at e3
       rw [if_neg (by omega)]
       exact hcells i j pv hi hj
      ·rw [hb2] at hj
       simp only [cond_false, cond_true] at hj
       have hb2' : i < off + m := by simpa using hb2
       have e3 : (i + 1) * inf.size ≤ (off + m) * inf.size := Nat.mul_le_mul_right _ hb2'
       have e5 : (off + m) * inf.size = off * inf.size + m * inf.size := Nat.add_mul _ _ _
       rw [if_pos (by omega)]
       obtain ⟨u, p1, p2⟩ := q2 (i - off) j pv (by omega) hj
       refine ⟨u, ?_, p2⟩
       rw [← p1]
       congr 1
       have e4 : i * inf.size = off * inf.size + (i - off) * inf.size := by rw [← Nat.add_mul]; congr 1; omega
       omega
     ·rw [hb1] at hj
      simp only [cond_true] at hj
      have hb1' : i < off := by simpa using hb1
      have e3 : (i + 1) * inf.size ≤ off * inf.size := Nat.mul_le_mul_right _ hb1'
      rw [if_neg (by omega)]
      exact hcells i j pv hi hj)
   obtain ⟨hfr, hco⟩ := hcore
   exact Acts.of_value (copy_exec hsv rfl hr) hK (.int _ _) hco hfr
theorem copy_sound (hT : TabOk P T) (hc : Core μ h S w) (ht : ∀ t, VRep μ h S w (env t) (a.tmps.getD t undef)) (args : Array Operand) (ts : Array TypeId) (hp : pop P T (.call ⟨.builtin .copy, args, ts⟩) env h K) :
  Acts P ⟨dst, .call ⟨.builtin .copy, args, ts⟩, ty, pos, after, guard⟩ a μ h S w K := by
 obtain ⟨args⟩ := args
 obtain ⟨ts⟩ := ts
 simp only [pop] at hp
 split at hp
 ·rename_i s x t tx
  have hs := ev_rep ht s
  have hx := ev_rep ht x
  have main : ∀ (e sz bytes : Nat) (zero : List PV), T.get t = .slice e sz bytes zero → pcopy e sz (ev env s) (ev env x) h K →
    Acts P ⟨dst, .call ⟨.builtin .copy, #[s, x], #[t, tx]⟩, ty, pos, after, guard⟩ a μ h S w K := by
   intro e sz bytes zero hti hp
   have hsz := (hT.slice _ _ _ _ _ hti).2.1
   unfold pcopy at hp
   split at hp
   ·rename_i id gen off len hes
    rw [hes] at hs
    split at hp
    ·rename_i g sz' n e' f hg
     obtain ⟨rfl, hp⟩ := hp
     replace hp := guardB_elim hp
     obtain ⟨hse, hp⟩ := hp
     simp only [Bool.and_eq_true] at hse
     obtain rfl := Nat.eq_of_beq_eq_true hse.1
     obtain rfl := Nat.eq_of_beq_eq_true hse.2
     obtain ⟨m, q, ⟨hb, f', hf', hK⟩, hsrc⟩ := src_sound (P := P) hc _ _ hx sz hsz _ hp
     exact copy_own hT hc t tx e sz bytes zero hti s x id g off len n f (hget_some hg) hs m q hsrc hb ⟨_, HEq'.set _ _ _ _ _ _ _ _ hf', hK⟩
    ·exact hp.elim
   ·exact hp.elim
  split at hp
  ·rename_i e sz bytes zero e' sz' bytes' zero' hti htx
   exact main e sz bytes zero hti hp
  ·rename_i e sz bytes zero hti htx
   exact main e sz bytes zero hti hp
  ·exact hp.elim
 ·exact hp.elim
theorem pop_sound (hT : TabOk P T) (hc : Core μ h S w) (ht : ∀ t, VRep μ h S w (env t) (a.tmps.getD t undef)) {op : Op} (hp : pop P T op env h K) :
  Acts P ⟨dst, op, ty, pos, after, guard⟩ a μ h S w K := by
 cases op with
 | store t ad x => exact store_sound hT hc ht t ad x hp
 | makeSlice t l c => exact make_sound hT hc ht t l c hp
 | box t x => exact box_sound hc ht t x hp
 | alloc t => exact alloc_sound hT hc t hp
 | buildSlice t len parts => exact buildSlice_sound hT hc ht t len parts hp
 | convert s d x => exact convert_sound2 hT hc ht s d x hp
 | binOp bo t x y t' => exact nilcmp_sound hT hc ht bo t t' x y hp
 | makeMap t r => cases r with
  | none => exact makeMap_sound hT hc t hp
  | some r => exact hp.elim
 | mapUpdate t m k x => exact mapUpdate_sound hT hc ht t m k x hp
 | call c =>
  obtain ⟨cal, args, ts⟩ := c
  cases cal with
  | value fo => exact call_sound hc ht fo args ts hp
  | invoke r m => exact .of_still hc (spop_sound hT hc.heap ht hp)
  | builtin b => cases b with
   | append => exact append_sound hT hc ht args ts hp
   | copy => exact copy_sound hT hc ht args ts hp
   | _ => exact .of_still hc (spop_sound hT hc.heap ht hp)
 | _ => exact .of_still hc (spop_sound hT hc.heap ht hp)
end
end Go.Am
