/- What is drawn is valid. -/
import Derived.Test.YtlfknfhecedddaaDoorV3
import Derived.Test.YtlfknfhecedddaaDoorP1
set_option linter.unusedVariables false
set_option linter.unusedSimpArgs false
namespace Go.Am
open Go Go.RowKit Go.Proofs

theorem m85_mem {c : TL1Cur} (h : Cu c) (l : List Int) (h1 : 1 ≤ l.length) (h2 : l.length ≤ 256) : ∃ x c', m85 c l = some (x, c') ∧ x ∈ l ∧ Cu c' := by
  obtain ⟨v, c', e, hv, hc⟩ := m40_ok h h1 h2
  unfold m85
  rw [e, sb]
  show ∃ x c'', (idx l (v : Int) >>= fun x4 => some (x4, c')) = some (x, c'') ∧ _
  rw [idx_nat hv, sb]
  exact ⟨_, _, rfl, List.getElem_mem hv, hc⟩
theorem m39_mem {c : TL1Cur} (h : Cu c) (l : List Str) (h1 : 1 ≤ l.length) (h2 : l.length ≤ 256) : ∃ x c', m39 c l = some (x, c') ∧ x ∈ l ∧ Cu c' := by
  obtain ⟨v, c', e, hv, hc⟩ := m40_ok h h1 h2
  unfold m39
  rw [e, sb]
  show ∃ x c'', (idx l (v : Int) >>= fun x4 => some (x4, c')) = some (x, c'') ∧ _
  rw [idx_nat hv, sb]
  exact ⟨_, _, rfl, List.getElem_mem hv, hc⟩
theorem all_mem {α : Type} {p : α → Bool} {l : List α} (h : l.all p = true) : ∀ x ∈ l, p x = true := List.all_eq_true.1 h
theorem m107_short {c : TL1Cur} (h : Cu c) : ∃ x c', m107 c = some (x, c') ∧ x.length ≤ 400 ∧ Cu c' := by
  unfold m107
  obtain ⟨x, c', e, hm, hc⟩ := m39_mem h ([[], [97], [98], [120, 49], [48], [53], [45, 53], [48, 53], [45, 48], [49, 50, 97], [48, 48, 55], [49, 48, 48, 48, 48, 48, 48, 48, 48, 48], [49, 48, 48, 48, 48, 48, 48, 48, 48, 49], [32, 49], [105, 116, 39, 115], [10], [60, 105, 62], [255, 59], [110, 97, 109, 101], [115, 58, 49, 58]] : List Str) (by decide) (by decide)
  rw [e, sb]
  exact ⟨_, _, rfl, of_decide_eq_true (all_mem (p := fun x : Str => decide (x.length ≤ 400)) (by decide) x hm), hc⟩
theorem vk_num {n : Int} (h0 : -1000000000 ≤ n) (h1 : n ≤ 1000000000) : vk (TKey.mk false n []) = true := by
  unfold vk
  rw [if_neg (show ¬ (false = true) by decide), if_pos (by simp; omega)]
  rfl
theorem m47_vk {c : TL1Cur} (h : Cu c) : ∃ x c', m47 c = some (x, c') ∧ vk x = true ∧ Cu c' := by
  unfold m47
  obtain ⟨b, c1, e1, h1⟩ := m37_ok h (n := 3) (by decide) (by decide)
  replace e1 : m37 c 3 = some (b, c1) := e1
  rw [e1, sb]
  show ∃ x c', (if b = true then _ else _) = some (x, c') ∧ _
  split
  · obtain ⟨x, c', e, hm, hc⟩ := m39_mem h1 ([[97], [98], [99], [], [48, 53], [120]] : List Str) (by decide) (by decide)
    rw [e, sb]
    have hv : vk (TKey.mk true 0 x) = true := by
      have d5 : Lib.decDigits 5 = [53] := by rw [Lib.decDigits]; rfl
      simp only [List.mem_cons, List.not_mem_nil, or_false] at hm
      rcases hm with rfl | rfl | rfl | rfl | rfl | rfl <;> simp [d5, vk, sp, parseI, piOf, nbi, num9, Lib.decFrom, Lib.digitVal]
    exact ⟨_, _, rfl, hv, hc⟩
  · obtain ⟨x, c', e, hm, hc⟩ := m85_mem h1 ([0, 1, 2, 3, 4, (-1), 7, 1000000000, (-1000000000)] : List Int) (by decide) (by decide)
    rw [e, sb]
    have := of_decide_eq_true (all_mem (p := fun x : Int => decide (-1000000000 ≤ x ∧ x ≤ 1000000000)) (by decide) x hm)
    exact ⟨_, _, rfl, vk_num this.1 this.2, hc⟩
/-- A valid, plain value. -/
def Gv (v : TValue) : Prop := v.vok = true ∧ v.plain = true
theorem gv_null : Gv (.mk 0 0 [] 0 []) := ⟨by rw [vok_eq]; decide, by rw [plain_eq]; decide⟩
theorem gv_bool (n : Int) (h : n = 0 ∨ n = 1) : Gv (.mk 1 n [] 0 []) := by
  rcases h with rfl | rfl <;> exact ⟨by rw [vok_eq]; decide, by rw [plain_eq]; decide⟩
theorem gv_int {n : Int} (h0 : -1000000000 ≤ n) (h1 : n ≤ 1000000000) : Gv (.mk 2 n [] 0 []) := by
  refine ⟨?_, by rw [plain_eq]; rfl⟩
  rw [vok_eq]; simp; omega
theorem gv_text {s : Str} (h : s.length ≤ 400) : Gv (.mk 3 0 s 0 []) := by
  refine ⟨?_, by rw [plain_eq]; rfl⟩
  rw [vok_eq]; simp; omega
theorem m105_gv (b : Bool) : ∃ x, m105 b = some x ∧ x.wt = 1 ∧ Gv x := by
  unfold m105
  split
  · exact ⟨_, rfl, dv_flat _ _ _ _, gv_bool _ (.inr rfl)⟩
  · exact ⟨_, rfl, dv_flat _ _ _ _, gv_bool _ (.inl rfl)⟩
theorem m89_gv {c : TL1Cur} (h : Cu c) : ∃ x c', m89 c = some (x, c') ∧ (x.wt = 1 ∧ Gv x) ∧ Cu c' := by
  unfold m89
  obtain ⟨v, c1, e1, hv, h1⟩ := m40_ok h (n := 8) (by decide) (by decide)
  replace e1 : m40 c 8 = some ((v : Int), c1) := e1
  rw [e1, sb]
  show ∃ (x : TValue) (c' : TL1Cur), (if (v : Int) = 0 then _ else _) = some (x, c') ∧ (x.wt = 1 ∧ Gv x) ∧ Cu c'
  split
  · exact ⟨_, _, rfl, ⟨dv_flat _ _ _ _, gv_null⟩, h1⟩
  split
  · obtain ⟨b, c2, e2, h2⟩ := m37_ok h1 (n := 2) (by decide) (by decide)
    replace e2 : m37 c1 2 = some (b, c2) := e2
    obtain ⟨x, e3, h3⟩ := m105_gv b
    rw [e2, sb]
    show ∃ (x : TValue) (c' : TL1Cur), (m105 b >>= _) = some (x, c') ∧ (x.wt = 1 ∧ Gv x) ∧ Cu c'
    rw [e3, sb]
    exact ⟨_, _, rfl, h3, h2⟩
  have tail : ∀ b : Bool, ∃ (x : TValue) (c' : TL1Cur), (if b = true then m107 c1 >>= fun (v17, v18) => some ((TValue.mk 3 0 v17 0 []), v18) else
        (if (v : Int) = 4 then
          m85 c1 ([0, 1, (-1), 5, 10, 999999999, 1000000000, (-1000000000)] : List Int) >>= fun (v21, v22) =>
          some ((TValue.mk 2 v21 [] 0 []), v22)
        else
          m40 c1 20 >>= fun (v24, v25) =>
          some ((TValue.mk 2 (W64 (v24 - 5)) [] 0 []), v25))) = some (x, c') ∧ (x.wt = 1 ∧ Gv x) ∧ Cu c' := fun b => by
    split
    · obtain ⟨x, c2, e2, hx, h2⟩ := m107_short h1
      rw [e2, sb]
      exact ⟨_, _, rfl, ⟨dv_flat _ _ _ _, gv_text hx⟩, h2⟩
    split
    · obtain ⟨x, c2, e2, hm, h2⟩ := m85_mem h1 ([0, 1, (-1), 5, 10, 999999999, 1000000000, (-1000000000)] : List Int) (by decide) (by decide)
      rw [e2, sb]
      have := of_decide_eq_true (all_mem (p := fun x : Int => decide (-1000000000 ≤ x ∧ x ≤ 1000000000)) (by decide) x hm)
      exact ⟨_, _, rfl, ⟨dv_flat _ _ _ _, gv_int this.1 this.2⟩, h2⟩
    · obtain ⟨x, c2, e2, hx, h2⟩ := m40_ok h1 (n := 20) (by decide) (by decide)
      replace e2 : m40 c1 20 = some ((x : Int), c2) := e2
      rw [e2, sb]
      have e : W64 ((x : Int) - 5) = (x : Int) - 5 := by rw [W64, w64 (by omega) (by omega)]
      refine ⟨_, _, rfl, ⟨dv_flat _ _ _ _, ?_⟩, h2⟩
      rw [e]
      exact gv_int (by omega) (by omega)
  split
  · exact tail _
  · exact tail _

theorem VL.put {y z : Int} {l : List TEntry} (h : VL y l) {k : TKey} {x : TValue} (hk : vk k = true) (hx : x.vok = true) (hyz : y ≤ z) (hn : k.fText = true ∨ k.fNum < z) (hno : ∀ e ∈ l, e.fKey ≠ k) : VL z (l ++ [TEntry.mk k x]) := by
  refine ⟨fun e he => ?_, ?_⟩
  · rcases List.mem_append.1 he with h1 | h1
    · obtain ⟨a1, a2, a3⟩ := h.1 e h1
      exact ⟨a1, a2.imp id (fun h => by omega), a3⟩
    · rw [List.mem_singleton] at h1
      subst h1
      exact ⟨hk, hn, hx⟩
  · rw [List.map_append, List.nodup_append]
    refine ⟨h.2, by simp, fun a ha b hb he => ?_⟩
    obtain ⟨e, he1, rfl⟩ := List.mem_map.1 ha
    simp at hb
    exact hno e he1 (he.trans hb)
theorem plainL_app : ∀ a b : List TEntry, TEntry.plainL (a ++ b) = (TEntry.plainL a && TEntry.plainL b)
  | [], b => by rw [plainL_nil]; simp
  | x :: r, b => by rw [List.cons_append, plainL_cons, plainL_cons, plainL_app r b, Bool.and_assoc]
theorem m50_gv : ∀ (d : Nat), d < 100 → ∀ c : TL1Cur, Cu c → ∃ (x : TValue) (c' : TL1Cur), m50 c (d : Int) = some (x, c') ∧ (x.wt ≤ Bd d ∧ Gv x) ∧ Cu c' := by
  intro d
  induction d with
  | zero =>
    intro _ c h
    obtain ⟨x, c', e, hd, hc⟩ := m89_gv h
    rw [m50, if_pos (by omega), e, sb]
    exact ⟨_, _, rfl, ⟨Nat.le_of_eq hd.1, hd.2⟩, hc⟩
  | succ d ihd =>
    intro hd c h
    have go : ∀ (n : Nat), n ≤ 10 → ∀ (c : TL1Cur) (y : Int) (l : List TEntry), Cu c → l.length + n ≤ 10 → TEntry.wtL l ≤ l.length * Bd d → 0 ≤ y → y ≤ 1000000001 → VL y l → TEntry.plainL l = true →
        ∃ b i q y' l', m50_L2 ((d + 1 : Nat) : Int) c.fB c.fI c.fH y l (n : Int) = some (b, i, q, y', l') ∧ Cu (TL1Cur.mk b i q) ∧ l'.length ≤ 10 ∧ TEntry.wtL l' ≤ 10 * Bd d ∧ 0 ≤ y' ∧ y' ≤ 1000000001 ∧ VL y' l' ∧ TEntry.plainL l' = true := by
      intro n
      induction n with
      | zero =>
        intro _ c y l hc hl hs y0 y1 hV hP
        rw [m50_L2, if_neg (by omega)]
        exact ⟨_, _, _, _, _, rfl, hc, by omega, Nat.le_trans hs (Nat.mul_le_mul_right _ (by omega)), y0, y1, hV, hP⟩
      | succ n ihn =>
        intro hn c y l hc hl hs y0 y1 hV hP
        obtain ⟨k, c1, e1, hk, h1⟩ := m47_vk hc
        obtain ⟨b, c2, e2, h2⟩ := m37_ok h1 (n := 2) (by decide) (by decide)
        replace e1 : m47 (TL1Cur.mk c.fB c.fI c.fH) = some (k, c1) := e1
        replace e2 : m37 c1 2 = some (b, c2) := e2
        have go2 : ∀ k : TKey, vk k = true → ∃ b i q y' l', (m90 (TValue.mk 4 0 [] y l) (TKey.mk k.fText k.fNum k.fStr) >>= fun v50 =>
            (if v50 < 0 then
              m50 (TL1Cur.mk c2.fB c2.fI c2.fH) (W64 (((d + 1 : Nat) : Int) - 1)) >>= fun (v53, v54) =>
              lapp 96 l ([(TEntry.mk (TKey.mk k.fText k.fNum k.fStr) v53)] : List TEntry) >>= fun l56 =>
              (if k.fText = true then
                m50_L2 ((d + 1 : Nat) : Int) v54.fB v54.fI v54.fH y l56 (W64 (((n + 1 : Nat) : Int) - 1))
              else
                m91 y (W64 (k.fNum + 1)) >>= fun v59 =>
                m50_L2 ((d + 1 : Nat) : Int) v54.fB v54.fI v54.fH v59 l56 (W64 (((n + 1 : Nat) : Int) - 1)))
            else
              m50_L2 ((d + 1 : Nat) : Int) c2.fB c2.fI c2.fH y l (W64 (((n + 1 : Nat) : Int) - 1)))) = some (b, i, q, y', l') ∧ Cu (TL1Cur.mk b i q) ∧ l'.length ≤ 10 ∧ TEntry.wtL l' ≤ 10 * Bd d ∧ 0 ≤ y' ∧ y' ≤ 1000000001 ∧ VL y' l' ∧ TEntry.plainL l' = true := fun k hk => by
          obtain ⟨r, e9, hat⟩ := m90_at (TValue.mk 4 0 [] y l) (TKey.mk k.fText k.fNum k.fStr) rfl (show l.length ≤ 2000000 by omega)
          rw [e9, sb, idw (show n < 1000 by omega), idw (show d < 1000 by omega)]
          split
          · rename_i hr
            have hno : ∀ e ∈ l, e.fKey ≠ k := by
              rcases hat with ⟨_, h⟩ | ⟨j, _, rfl, _⟩
              · exact h
              · omega
            obtain ⟨x, c3, e3, hx, h3⟩ := ihd (by omega) c2 h2
            replace e3 : m50 (TL1Cur.mk c2.fB c2.fI c2.fH) (d : Int) = some (x, c3) := e3
            rw [e3, sb]
            show ∃ b i q y' l', (lapp 96 l [TEntry.mk (TKey.mk k.fText k.fNum k.fStr) x] >>= _) = some (b, i, q, y', l') ∧ _
            rw [lapp_eq (by simp only [List.length_cons, List.length_nil]; omega), sb]
            have hs' : TEntry.wtL (l ++ [TEntry.mk (TKey.mk k.fText k.fNum k.fStr) x]) ≤ (l ++ [TEntry.mk (TKey.mk k.fText k.fNum k.fStr) x]).length * Bd d := by
              rw [wtL_app, wtL_cons, wtL_nil, List.length_append, Nat.add_mul]
              have hx' : (TEntry.mk (TKey.mk k.fText k.fNum k.fStr) x).fVal.wt ≤ Bd d := hx.1
              simp only [List.length_singleton, Nat.one_mul]
              omega
            have hP' : TEntry.plainL (l ++ [TEntry.mk (TKey.mk k.fText k.fNum k.fStr) x]) = true := by
              rw [plainL_app, hP, plainL_cons, plainL_nil]
              show (true && (x.plain && true)) = true
              rw [hx.2.2]; rfl
            split
            · rename_i ht
              exact ihn (by omega) c3 y _ h3 (by simp; omega) hs' y0 y1 (hV.put hk hx.2.1 (Int.le_refl _) (.inl ht) hno) hP'
            · rename_i ht
              rcases vk_fields hk with ⟨q1, _⟩ | ⟨_, q2, q3, _⟩
              · exact absurd q1 ht
              · have ew : W64 (k.fNum + 1) = k.fNum + 1 := by rw [W64, w64 (by omega) (by omega)]
                rw [m91_eq, sb, ew]
                refine ihn (by omega) c3 _ _ h3 (by simp; omega) hs' (by split <;> omega) (by split <;> omega) (hV.put hk hx.2.1 (by split <;> omega) (.inr (by show k.fNum < _; split <;> omega)) hno) hP'
          · exact ihn (by omega) c2 y l h2 (by omega) hs y0 y1 hV hP
        rw [m50_L2, if_pos (by omega), e1, sb]
        show ∃ b i q y' l', ((m37 c1 2 >>= _) >>= _) = some (b, i, q, y', l') ∧ _
        rw [e2, sb]
        show ∃ b0 i q y' l', ((if b = true then _ else _) >>= _) = some (b0, i, q, y', l') ∧ _
        split
        · split
          · exact go2 (TKey.mk false y []) (vk_num (by omega) (by omega))
          · exact go2 k hk
        · exact go2 k hk
    rw [m50, if_neg (by omega)]
    obtain ⟨b, c1, e1, h1⟩ := m37_ok h (n := 3) (by decide) (by decide)
    replace e1 : m37 c 3 = some (b, c1) := e1
    rw [e1, sb]
    show ∃ (x : TValue) (c' : TL1Cur), (if b = true then _ else _) = some (x, c') ∧ (x.wt ≤ Bd (d + 1) ∧ Gv x) ∧ Cu c'
    split
    · obtain ⟨n, c2, e2, hn, h2⟩ := m40_ok h1 (n := 5) (by decide) (by decide)
      replace e2 : m40 c1 5 = some ((n : Int), c2) := e2
      obtain ⟨b', i', q', y', l', e3, h3, h4, h5, y0, y1, hV, hP⟩ := go n (by omega) c2 0 [] h2 (by simp; omega) (by rw [wtL_nil]; omega) (by omega) (by omega) ⟨by simp, by simp⟩ plainL_nil
      rw [e2, sb]
      show ∃ (x : TValue) (c' : TL1Cur), (m50_L2 ((d + 1 : Nat) : Int) c2.fB c2.fI c2.fH 0 [] (n : Int) >>= _) = some (x, c') ∧ (x.wt ≤ Bd (d + 1) ∧ Gv x) ∧ Cu c'
      rw [e3, sb]
      refine ⟨_, _, rfl, ⟨by rw [TValue.wt_eq]; unfold Bd; show 1 + TEntry.wtL l' ≤ _; omega, (vok_arr rfl).2 ⟨rfl, rfl, ⟨y0, y1⟩, hV⟩, ?_⟩, h3⟩
      rw [plain_eq]
      exact hP
    · obtain ⟨x, c', e, hd, hc⟩ := m89_gv h1
      rw [e, sb]
      exact ⟨_, _, rfl, ⟨by have := Bd_pos (d + 1); omega, hd.2⟩, hc⟩

end Go.Am
