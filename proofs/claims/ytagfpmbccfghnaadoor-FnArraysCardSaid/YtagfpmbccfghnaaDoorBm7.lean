/- Append, calls, and all operations together. -/
import Derived.Test.YtagfpmbccfghnaaDoorBm6
set_option linter.unusedVariables false
set_option linter.unusedSimpArgs false
namespace Go.Am
open Go Go.RowKit

section
variable {P : Program} {T : Tab} {μ : Mu} {h : List AObj} {S : Nat → Prop} {w : World}

/-- An object without a block stays without one. -/
theorem core_set_none (hc : Core μ h S w) (id g g1 sz n : Nat) (e : TypeId) (f f1 : Nat → List PV) (hh : h[id]? = some (AObj.row g sz n e f)) (hmu : μ id = none) (hg : g < g1) :
    Fr μ h S w μ (h.set id (.row g1 sz 0 e f1)) S w ∧ Core μ (h.set id (.row g1 sz 0 e f1)) S w := by
  have hid : id < h.length := (List.getElem?_eq_some_iff.1 hh).1
  have get_self : (h.set id (AObj.row g1 sz 0 e f1))[id]? = some (AObj.row g1 sz 0 e f1) := by simp [hid]
  have get_ne : ∀ j, j ≠ id → (h.set id (AObj.row g1 sz 0 e f1))[j]? = h[j]? := fun j hj => by rw [List.getElem?_set_ne (Ne.symm hj)]
  have hown : ∀ b, Owned μ (h.set id (AObj.row g1 sz 0 e f1)) b → Owned μ h b := fun b hb => by
    obtain ⟨j, gj, szj, nj, ej, fj, basej, hj, hm⟩ := hb
    by_cases hji : j = id
    · subst hji; rw [hmu] at hm; cases hm
    · rw [get_ne j hji] at hj; exact ⟨j, gj, szj, nj, ej, fj, basej, hj, hm⟩
  have hfr : Fr μ h S w μ (h.set id (.row g1 sz 0 e f1)) S w := by
    refine ⟨by simp, fun _ _ _ => rfl, fun _ hb => hb, fun _ hb => .inl hb, fun b hb => .inl (hown b hb), Nat.le_refl _, rfl, rfl, rfl, fun j gj szj nj ej fj hj => ?_, fun j hj => ?_, fun _ _ _ hcap => hcap⟩
    · by_cases hji : j = id
      · subst hji
        rw [hh] at hj
        injection hj with hj
        injection hj with e1 e2 e3 e4 e5
        subst e1 e2 e3 e4 e5
        rw [get_self]
        exact ⟨by omega, fun he => absurd he (by omega)⟩
      · rw [get_ne j hji, hj]
        exact ⟨Nat.le_refl _, fun _ => ⟨rfl, rfl, rfl, rfl⟩⟩
    · have hji : j ≠ id := by rintro rfl; rw [hh] at hj; cases hj
      rw [get_ne j hji]; exact hj
  refine ⟨hfr, ⟨fun j gj szj nj ej fj hj => ?_, ⟨fun b hb => hc.ok.apart b (hown b hb), fun b hb => hc.ok.lt b (hown b hb), hc.ok.slt, ?_, hc.ok.known⟩⟩⟩
  · by_cases hji : j = id
    · subst hji
      rw [get_self] at hj
      injection hj with hj
      injection hj with e1 e2 e3 e4 e5
      subst e1 e2 e3 e4 e5
      refine ⟨fun i hi => absurd hi (by omega), ?_⟩
      rw [hmu]
    · rw [get_ne j hji] at hj
      obtain ⟨h1, h2⟩ := hc.heap j gj szj nj ej fj hj
      refine ⟨h1, ?_⟩
      cases hm : μ j with
      | none => rw [hm] at h2; exact h2
      | some p =>
        obtain ⟨b, base⟩ := p
        rw [hm] at h2
        obtain ⟨cur, q1, q2, q3⟩ := h2
        refine ⟨cur, q1, q2, fun i k pv hi hk => ?_⟩
        obtain ⟨v, h3, h4⟩ := q3 i k pv hi hk
        exact ⟨v, h3, h4.fr hfr hc.ok⟩
  · intro i j gi szi ni ei fi gj szj nj ej fj b o o' hi hj hmi hmj
    have hii : i ≠ id := by rintro rfl; rw [hmu] at hmi; cases hmi
    have hji : j ≠ id := by rintro rfl; rw [hmu] at hmj; cases hmj
    rw [get_ne i hii] at hi
    rw [get_ne j hji] at hj
    exact hc.ok.inj i j _ _ _ _ _ _ _ _ _ _ _ _ _ hi hj hmi hmj

variable {a : Act} {env : Env} {K : PV → List AObj → Prop} {dst : Option Tmp} {ty : TypeId} {pos : String} {after : Array Edge} {guard : Option (Nat × Bool)}

theorem zeroCells_size (z : Array Value) (n : Nat) : (Builtin.zeroCells z n).size = n * z.size := by simp [Builtin.zeroCells]

theorem append_exec {s x : Operand} {t tx : TypeId} {sv xv v' : Value} {w' : World} (hs : a.eval s = sv) (hx : a.eval x = xv) (hr : (Builtin.append_ #[t, tx] ty #[sv, xv]).run P w = .ok v' w') :
    (execOp a.eval ⟨dst, .call ⟨.builtin .append, #[s, x], #[t, tx]⟩, ty, pos, after, guard⟩).run P w = .ok (.value v') w' := by
  simp only [execOp, resolve, invoke, builtin, Sem.run_bind, Sem.run_pure, Result.andThen_ok, List.map_toArray, List.map_cons, List.map_nil, hs, hx, hr]

/-- Cells of a row that was put together out of two. -/
theorem join_cells {sz l m : Nat} {f q : Nat → List PV} {olds news rest : Array Value} (ho : olds.size = l * sz) (hn : news.size = m * sz)
    (h1 : ∀ (i j : Nat) (pv : PV), i < l → (f i)[j]? = some pv → ∃ u, olds[i * sz + j]? = some u ∧ CRep μ h S w pv u)
    (h2 : ∀ (i j : Nat) (pv : PV), i < m → (q i)[j]? = some pv → ∃ u, news[i * sz + j]? = some u ∧ CRep μ h S w pv u)
    (hl1 : ∀ i, i < l → (f i).length = sz) (hl2 : ∀ i, i < m → (q i).length = sz) :
    ∀ (i j : Nat) (pv : PV), i < l + m → (bif Nat.blt i l then f i else q (i - l))[j]? = some pv → ∃ u, (olds ++ news ++ rest)[i * sz + j]? = some u ∧ CRep μ h S w pv u := by
  intro i j pv hi hj
  by_cases hil : i < l
  · have hb : Nat.blt i l = true := by simpa using hil
    rw [hb] at hj
    simp only [cond_true] at hj
    obtain ⟨u, q1, q2⟩ := h1 i j pv hil hj
    have hlt : i * sz + j < olds.size := (Array.getElem?_eq_some_iff.1 q1).1
    exact ⟨u, by rw [Array.getElem?_append_left (by simp; omega), Array.getElem?_append_left hlt]; exact q1, q2⟩
  · have hb : Nat.blt i l = false := by
      cases hh : Nat.blt i l with
      | true => exact (hil (by simpa using hh)).elim
      | false => rfl
    rw [hb] at hj
    simp only [cond_false] at hj
    obtain ⟨u, q1, q2⟩ := h2 (i - l) j pv (by omega) hj
    have hlt : (i - l) * sz + j < news.size := (Array.getElem?_eq_some_iff.1 q1).1
    have hmul : i * sz = l * sz + (i - l) * sz := by rw [← Nat.add_mul]; congr 1; omega
    refine ⟨u, ?_, q2⟩
    rw [Array.getElem?_append_left (by simp; omega), Array.getElem?_append_right (by omega), ← q1]
    congr 1
    omega

theorem join_len {sz l m : Nat} {f q : Nat → List PV} (hl1 : ∀ i, i < l → (f i).length = sz) (hl2 : ∀ i, i < m → (q i).length = sz) : ∀ i, i < l + m → (bif Nat.blt i l then f i else q (i - l)).length = sz := by
  intro i hi
  by_cases hil : i < l
  · have hb : Nat.blt i l = true := by simpa using hil
    rw [hb]; exact hl1 i hil
  · have hb : Nat.blt i l = false := by
      cases hh : Nat.blt i l with
      | true => exact (hil (by simpa using hh)).elim
      | false => rfl
    rw [hb]; exact hl2 _ (by omega)

theorem drew_alloc_agree (w : World) (o : Obj) : Agree w (w.drew.alloc o) := (Agree.drew w).trans (alloc_agree w.drew o)

theorem append_nils (hT : TabOk P T) (hc : Core μ h S w) (t tx e sz bytes : Nat) (zero : List PV) (d : TypeDesc) (hti : T.get t = .slice e sz bytes zero) (hx' : P.underlying tx = some d) (hd : (∃ e', d = .slice e') ∨ d = .string)
    (s x : Operand) (hs : a.eval s = .slice none 0 0) (m : Nat) (g : Nat → List PV) (hsrc : Src P μ h S w (a.eval x) sz m g) (hb : m * bytes ≤ 140737488355328) (hK : K (.own h.length 0 0 m) (h ++ [.row 0 sz m e g])) :
    Acts P ⟨dst, .call ⟨.builtin .append, #[s, x], #[t, tx]⟩, ty, pos, after, guard⟩ a μ h S w K := by
  obtain ⟨hu, hsz, inf, zv, hinf, hisz, hib, hz, hzs, hzl, hzc⟩ := hT.slice _ _ _ _ _ hti
  have hbp := hT.bytes _ _ _ _ _ hti
  subst hisz hib
  obtain ⟨hl, news, q1, q2, q3, q4⟩ := hsrc
  rcases Nat.eq_zero_or_pos m with h0 | h0
  · subst h0
    have hn : news = #[] := Array.eq_empty_of_size_eq_zero (by simpa using q1)
    subst hn
    obtain ⟨r1, r2⟩ := q4 w (Agree.refl w)
    have hr := run_append_fit (P := P) (w := w) t tx ty e inf d hu hx' hd hinf none 0 0 (a.eval x) 0 #[] w r1 r2 (Nat.le_refl _) rfl
    obtain ⟨hfr, hco⟩ := core_new (w1 := w) hc inf.size 0 e g none rfl (Agree.refl w) hl
    refine Acts.of_value (append_exec hs rfl hr) hK ?_ hco hfr
    show OwnRep _ _ _ _ _ _ _ _
    unfold OwnRep
    rw [List.getElem?_append_right (Nat.le_refl _), Nat.sub_self]
    refine ⟨⟨_, _, _, rfl⟩, Nat.le_refl _, fun _ => ⟨by omega, ?_⟩⟩
    rw [muSet_self]
  · obtain ⟨r1, _⟩ := q4 w (Agree.refl w)
    obtain ⟨_, r2⟩ := q4 w.drew (Agree.drew w)
    have hr := run_append_more (P := P) (w := w) t tx ty e inf zv d hu hx' hd hinf hz none 0 0 (a.eval x) m #[] news r1 rfl r2 (by omega) hbp (by rw [Nat.zero_add]; exact hb)
    rw [Nat.zero_add] at hr
    obtain ⟨hfr, hco⟩ := core_new (w1 := w.drew.alloc (.cells (#[] ++ news ++ Builtin.zeroCells zv.cells (grownCap w m 0 e - m)) e)) hc inf.size m e g (some (w.heap.size, 0))
      ⟨Nat.le_refl _, _, heap_alloc_new w.drew _, by simp [q1], fun i j pv hi hj => by
        obtain ⟨u, p1, p2⟩ := q2 i j pv hi hj
        have hlt := (Array.getElem?_eq_some_iff.1 p1).1
        exact ⟨u, by rw [Array.empty_append, Nat.zero_add, Array.getElem?_append_left hlt]; exact p1, p2⟩⟩ (drew_alloc_agree w _) hl
    refine Acts.of_value (append_exec hs rfl hr) hK ?_ hco hfr
    show OwnRep _ _ _ _ _ _ _ _
    unfold OwnRep
    rw [List.getElem?_append_right (Nat.le_refl _), Nat.sub_self]
    refine ⟨⟨_, _, _, rfl⟩, Nat.le_refl _, fun _ => ⟨by omega, ?_⟩⟩
    rw [muSet_self]
    have hge := grownCap_ge w m 0 e
    refine ⟨_, grownCap w m 0 e, rfl, hge, fun _ => by simp, _, e, heap_alloc_new w.drew _, ?_⟩
    simp only [Array.size_append, zeroCells_size, hzs, q1]
    simp only [Nat.zero_add]
    have : grownCap w m 0 e * inf.size = m * inf.size + (grownCap w m 0 e - m) * inf.size := by rw [← Nat.add_mul]; congr 1; omega
    simp
    omega

theorem append_own (hT : TabOk P T) (hc : Core μ h S w) (t tx e sz bytes : Nat) (zero : List PV) (d : TypeDesc) (hti : T.get t = .slice e sz bytes zero) (hx' : P.underlying tx = some d) (hd : (∃ e', d = .slice e') ∨ d = .string)
    (s x : Operand) (id g off len n : Nat) (f : Nat → List PV) (hh : h[id]? = some (AObj.row g sz n e f)) (hs : VRep μ h S w (.own id g off len) (a.eval s)) (m : Nat) (q : Nat → List PV) (hsrc : Src P μ h S w (a.eval x) sz m q)
    (hb : (len + m) * bytes ≤ 140737488355328)
    (hK : K (.own id (g + 1) 0 (len + m)) (h.set id (.row (g + 1) sz (len + m) e (fun i => bif Nat.blt i len then f (off + i) else q (i - len))))) :
    Acts P ⟨dst, .call ⟨.builtin .append, #[s, x], #[t, tx]⟩, ty, pos, after, guard⟩ a μ h S w K := by
  obtain ⟨hu, hsz, inf, zv, hinf, hisz, hib, hz, hzs, hzl, hzc⟩ := hT.slice _ _ _ _ _ hti
  have hbp := hT.bytes _ _ _ _ _ hti
  subst hisz hib
  have hid : id < h.length := (List.getElem?_eq_some_iff.1 hh).1
  obtain ⟨hl1, olds, o1, o2, o3, o4⟩ := own_cells (P := P) hc id g off len inf.size n e f hh _ hs hsz
  obtain ⟨hl2, news, q1, q2, q3, q4⟩ := hsrc
  have hlj := join_len hl1 hl2
  have hr0 := hs.own_inv
  unfold OwnRep at hr0
  rw [hh] at hr0
  obtain ⟨⟨sa, sl, scap, hsv⟩, _, hr0⟩ := hr0
  obtain ⟨hle, hr0⟩ := hr0 rfl
  have hsl : sl = len := by
    obtain ⟨e1, _⟩ := o4 w (Agree.refl w)
    rw [hsv] at e1
    simp [Builtin.lenOf] at e1
    exact e1
  subst hsl
  obtain ⟨hl, hcell⟩ := hc.heap id g _ n e f hh
  by_cases hroom : sl + m ≤ scap
  · -- in place
    obtain ⟨r1, r2⟩ := q4 w (Agree.refl w)
    cases hmu : μ id with
    | none =>
      rw [hmu] at hr0 hcell
      rw [hsv] at hr0
      injection hr0 with e1 e2 e3
      subst e1 e2 e3
      have hm : m = 0 := by omega
      subst hm
      have hn : news = #[] := Array.eq_empty_of_size_eq_zero (by simpa using q1)
      subst hn
      have hr := run_append_fit (P := P) (w := w) t tx ty e inf d hu hx' hd hinf none 0 0 (a.eval x) 0 #[] w r1 r2 (Nat.le_refl _) rfl
      obtain ⟨hfr, hco⟩ := core_set_none hc id g (g + 1) inf.size n e f (fun i => bif Nat.blt i 0 then f (off + i) else q (i - 0)) hh hmu (Nat.lt_succ_self g)
      refine Acts.of_value (append_exec hsv rfl hr) hK ?_ hco hfr
      show OwnRep _ _ _ _ _ _ _ _
      unfold OwnRep
      rw [List.getElem?_set_self hid]
      refine ⟨⟨_, _, _, rfl⟩, Nat.le_refl _, fun _ => ⟨by omega, ?_⟩⟩
      rw [hmu]
    | some p =>
      obtain ⟨b, base⟩ := p
      rw [hmu] at hr0 hcell
      obtain ⟨ad, cap, hv, hlc, had, hcap⟩ := hr0
      rw [hsv] at hv
      injection hv with e1 e2 e3
      subst e1 e3
      obtain ⟨cur, hcur, hfit, hcells⟩ := hcell
      have hcap' : base + (off + scap) * inf.size ≤ cur.size := by
        obtain ⟨cur', e', p1, p2⟩ := hcap
        rw [hcur] at p1
        injection p1 with p1
        injection p1 with p1 _ _
        subst p1
        exact p2
      rw [Nat.add_mul] at hcap'
      -- the content of the block behind the append
      have key : ∃ cur1 : Array Value, cur1.size = cur.size ∧ (match (some ad : Option Addr) with | some a => (storeCells (a.add (sl * inf.size)) news.toList).run P w = .ok () (w.setRow b cur1) | none => w.setRow b cur1 = w) ∧
          ∀ k, cur1[k]? = if base + off * inf.size + sl * inf.size ≤ k ∧ k < base + off * inf.size + sl * inf.size + m * inf.size then news[k - (base + off * inf.size + sl * inf.size)]? else cur[k]? := by
        rcases Nat.eq_zero_or_pos m with h0 | h0
        · subst h0
          have hn : news = #[] := Array.eq_empty_of_size_eq_zero (by simpa using q1)
          subst hn
          refine ⟨cur, rfl, ?_, fun k => by rw [if_neg (by omega)]⟩
          show (storeCells (ad.add (sl * inf.size)) []).run P w = .ok () (w.setRow b cur)
          rw [setRow_self w b cur e (0, 0) hcur]
          rfl
        · have had := had (by omega)
          subst had
          have hmul : (sl + m) * inf.size ≤ scap * inf.size := Nat.mul_le_mul_right _ hroom
          rw [Nat.add_mul] at hmul
          have hst := run_storeCells_at P b (base + off * inf.size + sl * inf.size) e news.toList 0 cur w hcur (by simp; omega) q3
          rw [Nat.add_zero] at hst
          refine ⟨(cur.toList.take (base + off * inf.size + sl * inf.size) ++ news.toList ++ cur.toList.drop (base + off * inf.size + sl * inf.size + news.toList.length)).toArray, ?_, ?_, fun k => ?_⟩
          · simp; omega
          · show (storeCells ((⟨b, base + off * inf.size, none⟩ : Addr).add (sl * inf.size)) news.toList).run P w = .ok () _
            rw [Addr.add_lit]
            exact hst
          · have hsp := splice_get cur.toList news.toList (base + off * inf.size + sl * inf.size) k (by simp; omega)
            rw [List.getElem?_toArray, hsp]
            simp only [Array.getElem?_toList, Array.length_toList, q1]
      obtain ⟨cur1, c1, c2, c3⟩ := key
      have hr := run_append_fit (P := P) (w := w) t tx ty e inf d hu hx' hd hinf (some ad) sl scap (a.eval x) m news (w.setRow b cur1) r1 r2 hroom c2
      have hmul : (sl + m) * inf.size ≤ scap * inf.size := Nat.mul_le_mul_right _ hroom
      rw [Nat.add_mul] at hmul
      have hcore := core_set (w1 := w.setRow b cur1) hc id g (g + 1) inf.size n (sl + m) e f (fun i => bif Nat.blt i sl then f (off + i) else q (i - sl)) hh b (base + off * inf.size) cur1 (by omega) (fun he => absurd he (by omega))
        (.inr ⟨base, cur, hmu, hcur, c1.symm⟩) (setRow_heap w b cur _ e _ hcur) (by rw [c1, Nat.add_mul]; omega) (fun b' _ hne => setRow_other w b b' _ hne) (by simp) rfl rfl rfl hlj
        (fun i j pv hi hj => by
          have hjs : j < inf.size := by rw [← hlj i hi]; exact (List.getElem?_eq_some_iff.1 hj).1
          rw [c3]
          by_cases hil : i < sl
          · have hbl : Nat.blt i sl = true := by simpa using hil
            rw [hbl] at hj
            simp only [cond_true] at hj
            have hmi : (i + 1) * inf.size ≤ sl * inf.size := Nat.mul_le_mul_right _ hil
            rw [Nat.add_mul] at hmi
            rw [if_neg (by omega)]
            obtain ⟨u, p1, p2⟩ := hcells (off + i) j pv (by omega) hj
            refine ⟨u, ?_, p2⟩
            rw [← p1]
            congr 1
            rw [Nat.add_mul]
            omega
          · have hbl : Nat.blt i sl = false := by
              cases hh' : Nat.blt i sl with
              | true => exact (hil (by simpa using hh')).elim
              | false => rfl
            rw [hbl] at hj
            simp only [cond_false] at hj
            have e1 : i * inf.size = sl * inf.size + (i - sl) * inf.size := by rw [← Nat.add_mul]; congr 1; omega
            have e2 : (i - sl + 1) * inf.size ≤ m * inf.size := Nat.mul_le_mul_right _ (by omega)
            rw [Nat.add_mul] at e2
            rw [if_pos (by omega)]
            obtain ⟨u, p1, p2⟩ := q2 (i - sl) j pv (by omega) hj
            exact ⟨u, by rw [← p1]; congr 1; omega, p2⟩)
      obtain ⟨hfr, hco⟩ := hcore
      refine Acts.of_value (append_exec hsv rfl hr) hK ?_ hco hfr
      show OwnRep _ _ _ _ _ _ _ _
      unfold OwnRep
      rw [List.getElem?_set_self hid]
      refine ⟨⟨_, _, _, rfl⟩, Nat.le_refl _, fun _ => ⟨by omega, ?_⟩⟩
      rw [muSet_self]
      refine ⟨ad, scap, rfl, hroom, fun hc0 => ?_, cur1, e, setRow_heap w b cur _ e _ hcur, ?_⟩
      · rw [had hc0, Nat.zero_mul, Nat.add_zero]
      · rw [c1, Nat.zero_add]; omega
  · -- it grows
    obtain ⟨r1, _⟩ := q4 w (Agree.refl w)
    obtain ⟨_, r2⟩ := q4 w.drew (Agree.drew w)
    obtain ⟨_, s2⟩ := o4 w.drew (Agree.drew w)
    rw [hsv] at s2
    have hr := run_append_more (P := P) (w := w) t tx ty e inf zv d hu hx' hd hinf hz sa sl scap (a.eval x) m olds news r1 s2 r2 (by omega) hbp hb
    have hge := grownCap_ge w (sl + m) scap e
    have hcore := core_set (w1 := w.drew.alloc (.cells (olds ++ news ++ Builtin.zeroCells zv.cells (grownCap w (sl + m) scap e - (sl + m))) e)) hc id g (g + 1) inf.size n (sl + m) e f (fun i => bif Nat.blt i sl then f (off + i) else q (i - sl)) hh
      w.heap.size 0 (olds ++ news ++ Builtin.zeroCells zv.cells (grownCap w (sl + m) scap e - (sl + m))) (by omega) (fun he => absurd he (by omega)) (.inl (Nat.le_refl _)) (heap_alloc_new w.drew _)
      (by simp only [Array.size_append, o1, q1, Nat.add_mul]; omega) (fun b hlt _ => heap_alloc_old w.drew _ hlt) (by simp) rfl rfl rfl hlj
      (fun i j pv hi hj => by
        rw [Nat.zero_add]
        exact join_cells o1 q1 o2 q2 hl1 hl2 i j pv hi hj)
    obtain ⟨hfr, hco⟩ := hcore
    refine Acts.of_value (append_exec hsv rfl hr) hK ?_ hco hfr
    show OwnRep _ _ _ _ _ _ _ _
    unfold OwnRep
    rw [List.getElem?_set_self hid]
    refine ⟨⟨_, _, _, rfl⟩, Nat.le_refl _, fun _ => ⟨by omega, ?_⟩⟩
    rw [muSet_self]
    refine ⟨_, grownCap w (sl + m) scap e, rfl, hge, fun _ => by simp, _, e, heap_alloc_new w.drew _, ?_⟩
    simp only [Array.size_append, zeroCells_size, hzs, o1, q1, Nat.zero_add]
    have : grownCap w (sl + m) scap e * inf.size = (sl + m) * inf.size + (grownCap w (sl + m) scap e - (sl + m)) * inf.size := by rw [← Nat.add_mul]; congr 1; omega
    rw [Nat.add_mul] at this
    omega

theorem append_sound (hT : TabOk P T) (hc : Core μ h S w) (ht : ∀ t, VRep μ h S w (env t) (a.tmps.getD t undef)) (args : Array Operand) (ts : Array TypeId) (hp : pop P T (.call ⟨.builtin .append, args, ts⟩) env h K) :
    Acts P ⟨dst, .call ⟨.builtin .append, args, ts⟩, ty, pos, after, guard⟩ a μ h S w K := by
  obtain ⟨args⟩ := args
  obtain ⟨ts⟩ := ts
  simp only [pop] at hp
  split at hp
  · rename_i s x t tx
    have hs := ev_rep ht s
    have hx := ev_rep ht x
    have main : ∀ (e sz bytes : Nat) (zero : List PV) (d : TypeDesc), T.get t = .slice e sz bytes zero → P.underlying tx = some d → ((∃ e', d = .slice e') ∨ d = .string) → pappend e sz bytes (ev env s) (ev env x) h K →
        Acts P ⟨dst, .call ⟨.builtin .append, #[s, x], #[t, tx]⟩, ty, pos, after, guard⟩ a μ h S w K := by
      intro e sz bytes zero d hti hxu hd hp
      have hsz := (hT.slice _ _ _ _ _ hti).2.1
      unfold pappend at hp
      split at hp
      · rename_i hes
        rw [hes] at hs
        obtain ⟨_, g, ⟨hb, m, f', rfl, hf', hK⟩, hsrc⟩ := src_sound (P := P) hc _ _ hx sz hsz _ hp
        exact Acts.rows (append_nils hT hc t tx e sz bytes zero d hti hxu hd s x hs.nils_inv m g hsrc hb ⟨_, HEq'.snoc _ _ _ _ _ _ _ hf', hK⟩)
      · rename_i id gen off len hes
        rw [hes] at hs
        split at hp
        · rename_i g sz' n e' f hg
          obtain ⟨rfl, hp⟩ := hp
          replace hp := guardB_elim hp
          obtain ⟨hse, hp⟩ := hp
          simp only [Bool.and_eq_true] at hse
          obtain rfl := Nat.eq_of_beq_eq_true hse.1
          obtain rfl := Nat.eq_of_beq_eq_true hse.2
          obtain ⟨m, q, ⟨hb, n', f', rfl, hf', hK⟩, hsrc⟩ := src_sound (P := P) hc _ _ hx sz hsz _ hp
          exact Acts.rows (append_own hT hc t tx e sz bytes zero d hti hxu hd s x id g off len n f (hget_some hg) hs m q hsrc hb ⟨_, HEq'.set _ _ _ _ _ _ _ _ hf', hK⟩)
        · exact hp.elim
      · exact hp.elim
    split at hp
    · rename_i e sz bytes zero e' sz' bytes' zero' hti htx
      exact main e sz bytes zero _ hti (hT.slice _ _ _ _ _ htx).1 (.inl ⟨_, rfl⟩) hp
    · rename_i e sz bytes zero hti htx
      exact main e sz bytes zero _ hti (hT.str _ htx) (.inr rfl) hp
    · exact hp.elim
  · exact hp.elim

theorem VRep.of_arep {pv : PV} {v : Value} (hr : ARep μ h S w pv v) : VRep μ h S w pv v := by
  cases pv with
  | tup ps => exact (show False from hr).elim
  | _ => exact hr

theorem call_sound (hc : Core μ h S w) (ht : ∀ t, VRep μ h S w (env t) (a.tmps.getD t undef)) (fo : Operand) (args : Array Operand) (ts : Array TypeId) (hp : pop P T (.call ⟨.value fo, args, ts⟩) env h K) :
    Acts P ⟨dst, .call ⟨.value fo, args, ts⟩, ty, pos, after, guard⟩ a μ h S w K := by
  have hfo := ev_rep ht fo
  simp only [pop] at hp
  split at hp
  · rename_i f hef
    rw [hef] at hfo
    replace hp := guardB_elim hp
    obtain ⟨hnt, R, ⟨⟨fn, c, hfn, hbody, hname⟩, hA⟩, hK⟩ := hp
    simp only [List.all_eq_true] at hnt
    have hcall := hA w (args.map a.eval) μ S hc.heap hc.ok (by simp) (fun j pv hj => by
      rw [List.getElem?_map] at hj
      cases hx : args.toList[j]? with
      | none => rw [hx] at hj; cases hj
      | some x =>
        rw [hx] at hj
        injection hj with hj
        subst hj
        refine ⟨a.eval x, by rw [Array.getElem?_map]; simp only [Array.getElem?_toList] at hx; rw [hx]; rfl, ?_⟩
        have hv := ev_rep ht x
        have hne := hnt x (List.mem_of_getElem? hx)
        cases he : ev env x with
        | tup ps => rw [he] at hne; cases hne
        | _ => rw [he] at hv; exact hv)
    intro next Q hn
    have hrun : (execOp a.eval ⟨dst, .call ⟨.value fo, args, ts⟩, ty, pos, after, guard⟩).run P w = .ok (.enter f (args.map a.eval)) w := by
      simp only [execOp, resolve, hfo.fn_inv, Deferred.ofValue, invoke, callFunc, Sem.run_bind, Sem.run_pure, Result.andThen_ok, Array.append_empty, Array.empty_append]
      have hname' : ¬ fn.name = "runtime.NumGoroutine" := by simpa using hname
      simp [program, Sem.run, Result.andThen, hfn, hname', hbody]
    unfold Oper.wp
    rw [hrun]
    show Calls P f (args.map a.eval) w _
    refine hcall.mono fun e w' ⟨v, res, h', μ', S', he, hR, hv, hH, hM, hF⟩ => ?_
    subst he
    exact hn res v h' μ' S' w' (hK res h' hR) hv ⟨hH, hM⟩ hF
  · exact hp.elim

theorem pop_sound (hT : TabOk P T) (hc : Core μ h S w) (ht : ∀ t, VRep μ h S w (env t) (a.tmps.getD t undef)) {op : Op} (hp : pop P T op env h K) :
    Acts P ⟨dst, op, ty, pos, after, guard⟩ a μ h S w K := by
  cases op with
  | store t ad x => exact store_sound hT hc ht t ad x hp
  | makeSlice t l c => exact make_sound hT hc ht t l c hp
  | box t x => exact box_sound hc ht t x hp
  | alloc t => exact alloc_sound hT hc t hp
  | buildSlice t len parts => exact buildSlice_sound hT hc ht t len parts hp
  | call c =>
    obtain ⟨cal, args, ts⟩ := c
    cases cal with
    | value fo => exact call_sound hc ht fo args ts hp
    | invoke r m => exact .of_still hc (spop_sound hT hc.heap ht hp)
    | builtin b => cases b with
      | append => exact append_sound hT hc ht args ts hp
      | _ => exact .of_still hc (spop_sound hT hc.heap ht hp)
  | _ => exact .of_still hc (spop_sound hT hc.heap ht hp)

end
end Go.Am
