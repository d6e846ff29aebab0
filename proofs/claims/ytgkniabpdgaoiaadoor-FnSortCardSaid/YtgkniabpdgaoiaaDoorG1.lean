/- Drawn values: their numbers are small. (Turned by mk_g1.py out of V3.) -/
import Derived.Test.YtgkniabpdgaoiaaDoorV3
import Derived.Test.YtgkniabpdgaoiaaDoorB3
set_option linter.unusedVariables false
set_option linter.unusedSimpArgs false
namespace Go.Am
open Go Go.RowKit Go.Proofs
inductive Nb : TValue → Prop
 | mk {k n : Int} {s : Str} {x : Int} {l : List TEntry} (h0 : -1000000000000 ≤ n) (h1 : n ≤ 1000000000000) (hi : ∀ e ∈ l, Nb e.fVal) : Nb (.mk k n s x l)
theorem Nb.num {v : TValue} (h : Nb v) : -1000000000000 ≤ v.fNum ∧ v.fNum ≤ 1000000000000 := by cases h; exact ⟨by assumption, by assumption⟩
theorem Nb.item {v : TValue} (h : Nb v) : ∀ e ∈ v.fItems, Nb e.fVal := by cases h; assumption
theorem nb_flat {k n : Int} {s : Str} {x : Int} (h0 : -1000000000000 ≤ n) (h1 : n ≤ 1000000000000) : Nb (.mk k n s x []) := .mk h0 h1 (by simp)
theorem m85_mem {c : TL1Cur} (h : Cu c) (l : List Int) (h1 : 1 ≤ l.length) (h2 : l.length ≤ 256) : ∃ x c', m85 c l = some (x, c') ∧ x ∈ l ∧ Cu c' := by
 obtain ⟨v, c', e, hv, hc⟩ := m40_ok h h1 h2
 unfold m85
 rw [e, sb]
 show ∃ x c'', (idx l (v : Int) >>= fun x4 => some (x4, c')) = some (x, c'') ∧ x ∈ l ∧ Cu c''
 rw [idx_nat hv, sb]
 exact ⟨_, _, rfl, List.getElem_mem hv, hc⟩
theorem m89_nb {c : TL1Cur} (h : Cu c) : ∃ x c', m89 c = some (x, c') ∧ (x.wt = 1 ∧ Nb x) ∧ Cu c' := by
 unfold m89
 obtain ⟨v, c1, e1, hv, h1⟩ := m40_ok h (n := 8) (by decide) (by decide)
 replace e1 : m40 c 8 = some ((v : Int), c1) := e1
 rw [e1, sb]
 show ∃ (x : TValue) (c' : TL1Cur), (if (v : Int) = 0 then _ else _) = some (x, c') ∧ (x.wt = 1 ∧ Nb x) ∧ Cu c'
 split
 ·exact ⟨_, _, rfl, ⟨dv_flat _ _ _ _, nb_flat (by omega) (by omega)⟩, h1⟩
 split
 ·obtain ⟨b, c2, e2, h2⟩ := m37_ok h1 (n := 2) (by decide) (by decide)
  replace e2 : m37 c1 2 = some (b, c2) := e2
  rw [e2, sb]
  show ∃ (x : TValue) (c' : TL1Cur), (m105 b >>= _) = some (x, c') ∧ (x.wt = 1 ∧ Nb x) ∧ Cu c'
  unfold m105
  split <;> exact ⟨_, _, rfl, ⟨dv_flat _ _ _ _, nb_flat (by omega) (by omega)⟩, h2⟩
 have tail : ∀ b : Bool, ∃ (x : TValue) (c' : TL1Cur), (if b = true then m107 c1 >>= fun (v17, v18) => some ((TValue.mk 3 0 v17 0 []), v18) else
    (if (v : Int) = 4 then
     m85 c1 ([0, 1, (-1), 5, 10, 999999999, 1000000000, (-1000000000)] : List Int) >>= fun (v21, v22) =>
     some ((TValue.mk 2 v21 [] 0 []), v22)
    else
     m40 c1 20 >>= fun (v24, v25) =>
     some ((TValue.mk 2 (W64 (v24 - 5)) [] 0 []), v25))) = some (x, c') ∧ (x.wt = 1 ∧ Nb x) ∧ Cu c' := fun b => by
  split
  ·obtain ⟨x, c2, e2, h2⟩ := m107_ok h1
   rw [e2, sb]
   exact ⟨_, _, rfl, ⟨dv_flat _ _ _ _, nb_flat (by omega) (by omega)⟩, h2⟩
  split
  ·obtain ⟨x, c2, e2, hm, h2⟩ := m85_mem h1 ([0, 1, (-1), 5, 10, 999999999, 1000000000, (-1000000000)] : List Int) (by decide) (by decide)
   rw [e2, sb]
   have hq : ∀ y ∈ ([0, 1, (-1), 5, 10, 999999999, 1000000000, (-1000000000)] : List Int), -1000000000000 ≤ y ∧ y ≤ 1000000000000 := by decide
   exact ⟨_, _, rfl, ⟨dv_flat _ _ _ _, nb_flat (hq x hm).1 (hq x hm).2⟩, h2⟩
  ·obtain ⟨x, c2, e2, hm, h2⟩ := m40_ok h1 (n := 20) (by decide) (by decide)
   replace e2 : m40 c1 20 = some ((x : Int), c2) := e2
   rw [e2, sb]
   have hw : W64 ((x : Int) - 5) = (x : Int) - 5 := by rw [W64, w64 (by omega) (by omega)]
   exact ⟨_, _, rfl, ⟨dv_flat _ _ _ _, nb_flat (by omega) (by omega)⟩, h2⟩
 split
 ·exact tail _
 ·exact tail _
theorem m50_nb : ∀ (d : Nat), d < 100 → ∀ c : TL1Cur, Cu c → ∃ (x : TValue) (c' : TL1Cur), m50 c (d : Int) = some (x, c') ∧ (x.wt ≤ Bd d ∧ Nb x) ∧ Cu c' := by
 intro d
 induction d with
 | zero =>
  intro _ c h
  obtain ⟨x, c', e, hd, hc⟩ := m89_nb h
  rw [m50, if_pos (by omega), e, sb]
  exact ⟨_, _, rfl, ⟨Nat.le_of_eq hd.1, hd.2⟩, hc⟩
 | succ d ihd =>
  intro hd c h
  have go : ∀ (n : Nat), n ≤ 10 → ∀ (c : TL1Cur) (y : Int) (l : List TEntry), Cu c → l.length + n ≤ 10 → TEntry.wtL l ≤ l.length * Bd d → (∀ e ∈ l, Nb e.fVal) →
    ∃ b i q y' l', m50_L2 ((d + 1 : Nat) : Int) c.fB c.fI c.fH y l (n : Int) = some (b, i, q, y', l') ∧ Cu (TL1Cur.mk b i q) ∧ l'.length ≤ 10 ∧ TEntry.wtL l' ≤ 10 * Bd d ∧ ∀ e ∈ l', Nb e.fVal := by
   intro n
   induction n with
   | zero =>
    intro _ c y l hc hl hs hnb
    rw [m50_L2, if_neg (by omega)]
    exact ⟨_, _, _, _, _, rfl, hc, by omega, Nat.le_trans hs (Nat.mul_le_mul_right _ (by omega)), hnb⟩
   | succ n ihn =>
    intro hn c y l hc hl hs hnb
    obtain ⟨k, c1, e1, h1⟩ := m47_ok hc
    obtain ⟨b, c2, e2, h2⟩ := m37_ok h1 (n := 2) (by decide) (by decide)
    replace e1 : m47 (TL1Cur.mk c.fB c.fI c.fH) = some (k, c1) := e1
    replace e2 : m37 c1 2 = some (b, c2) := e2
    have go2 : ∀ k : TKey, ∃ b i q y' l', (m90 (TValue.mk 4 0 [] y l) (TKey.mk k.fText k.fNum k.fStr) >>= fun v50 =>
      (if v50 < 0 then
       m50 (TL1Cur.mk c2.fB c2.fI c2.fH) (W64 (((d + 1 : Nat) : Int) - 1)) >>= fun (v53, v54) =>
       lapp 96 l ([(TEntry.mk (TKey.mk k.fText k.fNum k.fStr) v53)] : List TEntry) >>= fun l56 =>
       (if k.fText = true then
        m50_L2 ((d + 1 : Nat) : Int) v54.fB v54.fI v54.fH y l56 (W64 (((n + 1 : Nat) : Int) - 1))
       else
        m91 y (W64 (k.fNum + 1)) >>= fun v59 =>
        m50_L2 ((d + 1 : Nat) : Int) v54.fB v54.fI v54.fH v59 l56 (W64 (((n + 1 : Nat) : Int) - 1)))
      else
       m50_L2 ((d + 1 : Nat) : Int) c2.fB c2.fI c2.fH y l (W64 (((n + 1 : Nat) : Int) - 1)))) = some (b, i, q, y', l') ∧ Cu (TL1Cur.mk b i q) ∧ l'.length ≤ 10 ∧ TEntry.wtL l' ≤ 10 * Bd d ∧ ∀ e ∈ l', Nb e.fVal := fun k => by
     obtain ⟨r, e9, _, _⟩ := m90_some (TValue.mk 4 0 [] y l) (TKey.mk k.fText k.fNum k.fStr) (show l.length ≤ 2000000 by omega)
     rw [e9, sb, idw (show n < 1000 by omega), idw (show d < 1000 by omega)]
     split
     ·obtain ⟨x, c3, e3, ⟨hx, hxn⟩, h3⟩ := ihd (by omega) c2 h2
      replace e3 : m50 (TL1Cur.mk c2.fB c2.fI c2.fH) (d : Int) = some (x, c3) := e3
      rw [e3, sb]
      show ∃ b i q y' l', (lapp 96 l [TEntry.mk (TKey.mk k.fText k.fNum k.fStr) x] >>= _) = some (b, i, q, y', l') ∧ _
      rw [lapp_eq (by simp only [List.length_cons, List.length_nil]; omega), sb]
      have hs' : TEntry.wtL (l ++ [TEntry.mk (TKey.mk k.fText k.fNum k.fStr) x]) ≤ (l ++ [TEntry.mk (TKey.mk k.fText k.fNum k.fStr) x]).length * Bd d := by
       rw [wtL_app, wtL_cons, wtL_nil, List.length_append, Nat.add_mul]
       have hx' : (TEntry.mk (TKey.mk k.fText k.fNum k.fStr) x).fVal.wt ≤ Bd d := hx
       simp only [List.length_singleton, Nat.one_mul]
       omega
      have hnb' : ∀ e ∈ l ++ [TEntry.mk (TKey.mk k.fText k.fNum k.fStr) x], Nb e.fVal := fun e he => by
       rcases List.mem_append.1 he with he | he
       ·exact hnb e he
       ·rw [List.mem_singleton] at he; subst he; exact hxn
      split
      ·exact ihn (by omega) c3 y _ h3 (by simp; omega) hs' hnb'
      ·rw [m91_eq, sb]
       exact ihn (by omega) c3 _ _ h3 (by simp; omega) hs' hnb'
     ·exact ihn (by omega) c2 y l h2 (by omega) hs hnb
    rw [m50_L2, if_pos (by omega), e1, sb]
    show ∃ b i q y' l', ((m37 c1 2 >>= _) >>= _) = some (b, i, q, y', l') ∧ _
    rw [e2, sb]
    show ∃ b0 i q y' l', ((if b = true then _ else _) >>= _) = some (b0, i, q, y', l') ∧ _
    split
    ·split
     ·exact go2 (TKey.mk false y [])
     ·exact go2 k
    ·exact go2 k
  rw [m50, if_neg (by omega)]
  obtain ⟨b, c1, e1, h1⟩ := m37_ok h (n := 3) (by decide) (by decide)
  replace e1 : m37 c 3 = some (b, c1) := e1
  rw [e1, sb]
  show ∃ (x : TValue) (c' : TL1Cur), (if b = true then _ else _) = some (x, c') ∧ (x.wt ≤ Bd (d + 1) ∧ Nb x) ∧ Cu c'
  split
  ·obtain ⟨n, c2, e2, hn, h2⟩ := m40_ok h1 (n := 5) (by decide) (by decide)
   replace e2 : m40 c1 5 = some ((n : Int), c2) := e2
   obtain ⟨b', i', q', y', l', e3, h3, h4, h5, h6⟩ := go n (by omega) c2 0 [] h2 (by simp; omega) (by rw [wtL_nil]; omega) (fun e he => by simp at he)
   rw [e2, sb]
   show ∃ (x : TValue) (c' : TL1Cur), (m50_L2 ((d + 1 : Nat) : Int) c2.fB c2.fI c2.fH 0 [] (n : Int) >>= _) = some (x, c') ∧ (x.wt ≤ Bd (d + 1) ∧ Nb x) ∧ Cu c'
   rw [e3, sb]
   exact ⟨_, _, rfl, ⟨by rw [TValue.wt_eq]; unfold Bd; show 1 + TEntry.wtL l' ≤ _; omega, .mk (by decide) (by decide) h6⟩, h3⟩
  ·obtain ⟨x, c', e, hd, hc⟩ := m89_nb h1
   rw [e, sb]
   exact ⟨_, _, rfl, ⟨by have := Bd_pos (d + 1); omega, hd.2⟩, hc⟩
theorem list_ok {c : TL1Cur} (h : Cu c) : ∃ l c', m_s_l9List c = some (l, c') ∧ l.length ≤ 6 ∧ ∀ v ∈ l, v.wt ≤ 2000 ∧ Nb v := by
 obtain ⟨n, c1, e1, hn, h1⟩ := m40_ok h (n := 7) (by decide) (by decide)
 replace e1 : m40 c 7 = some ((n : Int), c1) := e1
 have go : ∀ (n : Nat), n ≤ 6 → ∀ (c : TL1Cur) (l : List TValue), Cu c → l.length + n ≤ 6 → (∀ v ∈ l, v.wt ≤ 2000 ∧ Nb v) → ∃ b i q l', m_s_l9List_L2 c.fB c.fI c.fH l (n : Int) = some (b, i, q, l') ∧ l'.length ≤ 6 ∧ ∀ v ∈ l', v.wt ≤ 2000 ∧ Nb v := by
  intro n
  induction n with
  | zero =>
   intro _ c l hc hl hv
   rw [m_s_l9List_L2, if_neg (by omega)]
   exact ⟨_, _, _, _, rfl, by omega, hv⟩
  | succ n ihn =>
   intro hn c l hc hl hv
   obtain ⟨b, c2, e2, h2⟩ := m37_ok hc (n := 5) (by decide) (by decide)
   replace e2 : m37 (TL1Cur.mk c.fB c.fI c.fH) 5 = some (b, c2) := e2
   rw [m_s_l9List_L2, if_pos (by omega), e2, sb, idw (by omega)]
   have app : ∀ v, v.wt ≤ 2000 ∧ Nb v → lapp 64 l ([v] : List TValue) = some (l ++ [v]) ∧ ∀ u ∈ l ++ [v], u.wt ≤ 2000 ∧ Nb u := fun v hw => ⟨lapp_eq (by simp only [List.length_cons, List.length_nil]; omega), fun u hu => by
    rcases List.mem_append.1 hu with hu | hu
    ·exact hv u hu
    ·rw [List.mem_singleton] at hu; subst hu; exact hw⟩
   show ∃ b' i q l', (if b = true then _ else _) = some (b', i, q, l') ∧ _
   split
   ·obtain ⟨x, c3, e3, ⟨hx, hxn⟩, h3⟩ := m50_nb 2 (by decide) c2 h2
    replace e3 : m50 c2 2 = some (x, c3) := e3
    have hx2 : x.wt ≤ 2000 := Nat.le_trans hx (by decide)
    obtain ⟨q1, q2⟩ := app x ⟨hx2, hxn⟩
    rw [e3, sb]
    show ∃ b' i q l', (lapp 64 l ([x] : List TValue) >>= _) = some (b', i, q, l') ∧ _
    rw [q1, sb]
    exact ihn (by omega) c3 _ h3 (by simp; omega) q2
   ·obtain ⟨u, c3, e3, hu, h3⟩ := m40_ok h2 (n := 9) (by decide) (by decide)
    replace e3 : m40 c2 9 = some ((u : Int), c3) := e3
    obtain ⟨q1, q2⟩ := app (TValue.mk 2 (u : Int) [] 0 []) ⟨by rw [dv_flat]; omega, nb_flat (by omega) (by omega)⟩
    rw [e3, sb]
    show ∃ b' i q l', (lapp 64 l ([TValue.mk 2 (u : Int) [] 0 []] : List TValue) >>= _) = some (b', i, q, l') ∧ _
    rw [q1, sb]
    exact ihn (by omega) c3 _ h3 (by simp; omega) q2
 obtain ⟨b, i, q, l, e2, h2, h3⟩ := go n (by omega) c1 [] h1 (by simp; omega) (by simp)
 unfold m_s_l9List
 rw [e1, sb]
 show ∃ l c', (m_s_l9List_L2 c1.fB c1.fI c1.fH [] (n : Int) >>= _) = some (l, c') ∧ _
 rw [e2, sb]
 exact ⟨_, _, rfl, h2, h3⟩
theorem draw_ok {b : List UInt8} (h : b.length ≤ 1048576) : ∃ l, m_s_DrawSortValues b = some l ∧ l.length ≤ 6 ∧ ∀ v ∈ l, v.wt ≤ 2000 ∧ Nb v := by
 obtain ⟨c, e, hc⟩ := m36_ok h
 obtain ⟨l, c', e2, h2, h3⟩ := list_ok hc
 unfold m_s_DrawSortValues
 rw [e, sb, e2, sb]
 exact ⟨_, rfl, h2, h3⟩
end Go.Am
