/- The law on unions. -/
import Derived.Test.YtlfknfhecedddaaDoorV2
import Derived.Test.YtlfknfhecedddaaDoorE1
import Derived.Test.YtlfknfhecedddaaDoorU2
set_option linter.unusedVariables false
set_option linter.unusedSimpArgs false
namespace Go.Am
open Go Go.RowKit Go.Proofs

theorem copyS_eq {v : TValue} (h : Sm v) : m_s_l5Copy v = some v := by
  induction h with
  | mk hl hi ih =>
    rename_i k n s x l
    have go : ∀ m i : Nat, i ≤ l.length → l.length - i = m → m_s_l5Copy_L2 (.mk k n s x l) (l.take i) (i : Int) = some l := by
      intro m
      induction m with
      | zero =>
        intro i h1 h2
        have : i = l.length := by omega
        rw [m_s_l5Copy_L2, TValue.fItems_mk, if_neg (by omega), this, List.take_length]
      | succ m ihm =>
        intro i h1 h2
        have hlt : i < l.length := by omega
        have e1 : idx l (i : Int) = some l[i] := idx_nat hlt
        rw [m_s_l5Copy_L2, TValue.fItems_mk, if_pos (by omega), e1, sb, sb, ih _ (List.getElem_mem hlt), sb,
          lapp_eq (by rw [List.length_take]; simp only [List.length_cons, List.length_nil]; omega), sb, TEntry.eta, List.take_append_getElem hlt, w_succ (by omega)]
        exact ihm (i + 1) (by omega) (by omega)
    have e := go l.length 0 (by omega) (by omega)
    rw [m_s_l5Copy]
    replace e : m_s_l5Copy_L2 (.mk k n s x l) [] 0 = some l := e
    rw [e]; rfl
theorem getS {v : TValue} (hv : Dv2 v) (hk : v.fKind = 4) (k : TKey) : ∃ x b, m_s_GetKey v k = some (x, b) ∧ (b = false → ∀ e ∈ v.fItems, e.fKey ≠ k) := by
  have hl := hv.len
  obtain ⟨r, e, ha⟩ := m90_at v k hk (by omega)
  unfold m_s_GetKey m_s_l6Get
  rw [e, sb]
  rcases ha with ⟨rfl, h⟩ | ⟨j, hj, rfl, h1, h2⟩
  · rw [if_pos (by decide), sb]
    show ∃ x b, (m_s_l5Copy (TValue.mk 0 0 [] 0 []) >>= fun v4 => some (v4, false)) = some (x, b) ∧ _
    rw [copyS_eq (sm_wt (by rw [dv_flat]; omega)), sb]
    exact ⟨_, _, rfl, fun _ => h⟩
  · have hw := wt_item (List.getElem_mem hj)
    have hv' : v.wt ≤ 2000 := hv
    rw [if_neg (by omega), idx_nat hj, sb, sb]
    show ∃ x b, (m_s_l5Copy v.fItems[j].fVal >>= fun v4 => some (v4, true)) = some (x, b) ∧ _
    rw [copyS_eq (sm_wt (by omega)), sb]
    exact ⟨_, _, rfl, fun h => by cases h⟩

/-! ### The union -/
def filt (a l : List TEntry) : List TEntry := l.filter (fun e => !(decide (e.fKey ∈ a.map (·.fKey))))
theorem wtL_filter (p : TEntry → Bool) : ∀ l : List TEntry, TEntry.wtL (l.filter p) ≤ TEntry.wtL l
  | [] => by simp
  | x :: r => by
    rw [List.filter_cons]
    have := wtL_filter p r
    split
    · rw [wtL_cons, wtL_cons]; omega
    · rw [wtL_cons]; omega
theorem key_inj : ∀ {l : List TEntry}, (l.map (·.fKey)).Nodup → ∀ a b : TEntry, a ∈ l → b ∈ l → a.fKey = b.fKey → a = b
  | [], _, a, _, h, _, _ => by cases h
  | x :: r, hn, a, b, ha, hb, he => by
    rw [List.map_cons, List.nodup_cons] at hn
    rcases List.mem_cons.1 ha with rfl | ha'
    · rcases List.mem_cons.1 hb with rfl | hb'
      · rfl
      · exact absurd (List.mem_map.2 ⟨b, hb', he.symm⟩) hn.1
    · rcases List.mem_cons.1 hb with rfl | hb'
      · exact absurd (List.mem_map.2 ⟨a, ha', he⟩) hn.1
      · exact key_inj hn.2 a b ha' hb' he
theorem union_loop (la : List TEntry) (b : TValue) (q : Int) (s : Str) (hla : la.length ≤ 2000) (hb : Dv2 b) (hnb : (b.fItems.map (·.fKey)).Nodup) :
    ∀ m i : Nat, i ≤ b.fItems.length → b.fItems.length - i = m → ∀ y : Int, ∃ y', m_i_Union_L2 b 4 q s y (la ++ filt la (b.fItems.take i)) (i : Int) = some (4, q, s, y', la ++ filt la b.fItems) := by
  have hlb := hb.len
  intro m
  induction m with
  | zero =>
    intro i h1 h2 y
    have : i = b.fItems.length := by omega
    rw [m_i_Union_L2, if_neg (by omega), this, List.take_length]
    exact ⟨_, rfl⟩
  | succ m ihm =>
    intro i h1 h2 y
    have hlt : i < b.fItems.length := by omega
    have hw := wt_item (List.getElem_mem hlt)
    have hb' : b.wt ≤ 2000 := hb
    have hfl : (filt la (b.fItems.take i)).length ≤ 2000 := by
      have h3 := List.length_filter_le (fun e => !(decide (e.fKey ∈ la.map (·.fKey)))) (b.fItems.take i)
      rw [List.length_take] at h3
      show (List.filter _ _).length ≤ 2000
      omega
    have hL : (la ++ filt la (b.fItems.take i)).length ≤ 4000 := by rw [List.length_append]; omega
    obtain ⟨r, e, ha⟩ := m27_at (.mk 4 q s y (la ++ filt la (b.fItems.take i))) b.fItems[i].fKey rfl (show (la ++ filt la (b.fItems.take i)).length ≤ 2000000 by omega)
    have htk : filt la (b.fItems.take (i + 1)) = filt la (b.fItems.take i) ++ filt la [b.fItems[i]] := by
      rw [← List.take_append_getElem hlt]; exact List.filter_append _ _
    rw [m_i_Union_L2, if_pos (by omega), idx_nat hlt, sb, e, sb]
    by_cases hm : b.fItems[i].fKey ∈ la.map (·.fKey)
    · have hr : ¬ r < 0 := by
        rcases ha with ⟨rfl, h⟩ | ⟨j, hj, rfl, h3, h4⟩
        · obtain ⟨e0, he0, hk0⟩ := List.mem_map.1 hm
          exact absurd hk0 (h e0 (List.mem_append_left _ he0))
        · omega
      have e3 : filt la [b.fItems[i]] = [] := by unfold filt; rw [List.filter_cons, decide_eq_true hm]; rfl
      obtain ⟨y', e4⟩ := ihm (i + 1) (by omega) (by omega) y
      rw [htk, e3, List.append_nil] at e4
      rw [if_neg hr, w_succ (by omega)]
      exact ⟨y', e4⟩
    · have hnot : ∀ e ∈ la ++ filt la (b.fItems.take i), e.fKey ≠ b.fItems[i].fKey := fun e0 he0 hk0 => by
        rcases List.mem_append.1 he0 with h3 | h3
        · exact hm (List.mem_map.2 ⟨e0, h3, hk0⟩)
        · have h4 := (List.mem_filter.1 h3).1
          obtain ⟨j, hj, rfl⟩ := List.mem_iff_getElem.1 h4
          rw [List.length_take] at hj
          rw [List.getElem_take] at hk0
          have h5 := List.pairwise_iff_getElem.1 hnb j i (by rw [List.length_map]; omega) (by rw [List.length_map]; exact hlt) (by omega)
          rw [List.getElem_map, List.getElem_map] at h5
          exact h5 hk0
      have hr : r = -1 := by
        rcases ha with ⟨rfl, h⟩ | ⟨j, hj, rfl, h3, h4⟩
        · rfl
        · exact absurd h3 (hnot _ (List.getElem_mem hj))
      subst hr
      have e3 : filt la [b.fItems[i]] = [b.fItems[i]] := by unfold filt; rw [List.filter_cons, decide_eq_false hm]; rfl
      have e5 := m56_eq (v := .mk 4 q s y (la ++ filt la (b.fItems.take i))) (k := b.fItems[i].fKey) (x := b.fItems[i].fVal) (by show (la ++ filt la (b.fItems.take i)).length ≤ 1000000; omega) e (.inl ⟨rfl, hnot⟩)
      rw [if_pos (by decide), m46_eq (sm_wt (by omega)), sb, e5, sb]
      simp only [TValue.fKind_mk, TValue.fNum_mk, TValue.fStr_mk, TValue.fNext_mk, TValue.fItems_mk]
      have e6 : putL (la ++ filt la (b.fItems.take i)) b.fItems[i].fKey b.fItems[i].fVal (-1) = la ++ filt la (b.fItems.take (i + 1)) := by
        unfold putL
        rw [if_neg (by decide), TEntry.eta, htk, e3, List.append_assoc]
      rw [e6, w_succ (by omega)]
      exact ihm (i + 1) (by omega) (by omega) _
structure Un (a b u : TValue) : Prop where
  ka : a.fKind = 4
  kb : b.fKind = 4
  va : a.vok = true
  vb : b.vok = true
  ueq : u = .mk 4 a.fNum a.fStr (if b.fNext > a.fNext then b.fNext else a.fNext) (a.fItems ++ filt a.fItems b.fItems)
  kw : u.kw ≤ 200
theorem union_wt {a b : TValue} (ha : Dv2 a) (hb : Dv2 b) (k n : Int) (s : Str) (x : Int) : (TValue.mk k n s x (a.fItems ++ filt a.fItems b.fItems)).wt ≤ 5000 := by
  have ha' : a.wt ≤ 2000 := ha
  have hb' : b.wt ≤ 2000 := hb
  rw [TValue.wt_eq] at ha' hb' ⊢
  rw [TValue.fItems_mk, wtL_app]
  have := wtL_filter (fun e => !(decide (e.fKey ∈ a.fItems.map (·.fKey)))) b.fItems
  unfold filt
  omega
theorem isv_eq {v : TValue} (hv : v.wt ≤ 1000000) : m_i_IsValue v = some (decide (v.kw ≤ 200) && v.vok) := by
  unfold m_i_IsValue
  rw [weight_eq _ (Nat.le_refl _) v hv, sb, wellFormed_eq _ (Nat.le_refl _) v hv]
  by_cases h : v.kw ≤ 200
  · rw [if_pos (by omega), sb, decide_eq_true h]; rfl
  · rw [if_neg (by omega), decide_eq_false h]; rfl
theorem union_ok {a b : TValue} (ha : Dv2 a) (hb : Dv2 b) : ∃ u bad, m_i_Union a b = some (u, bad) ∧ (bad ≠ 0 → u.fKind = 0) ∧ (bad = 0 → Un a b u) := by
  have ha' : a.wt ≤ 2000 := ha
  have hb' : b.wt ≤ 2000 := hb
  have hla := ha.len
  unfold m_i_Union
  rw [isv_eq (by omega), sb, isv_eq (by omega), sb]
  by_cases va : (decide (a.kw ≤ 200) && a.vok) = true
  case neg => rw [if_neg va]; exact ⟨_, _, rfl, fun _ => rfl, fun h => absurd h (by decide)⟩
  rw [if_pos va]
  by_cases vb : (decide (b.kw ≤ 200) && b.vok) = true
  case neg => rw [if_neg vb]; exact ⟨_, _, rfl, fun _ => rfl, fun h => absurd h (by decide)⟩
  rw [if_pos vb]
  by_cases ka : a.fKind = 4
  case neg => rw [if_neg ka]; exact ⟨_, _, rfl, fun _ => rfl, fun h => absurd h (by decide)⟩
  rw [if_pos ka]
  by_cases kb : b.fKind = 4
  case neg => rw [if_neg kb]; exact ⟨_, _, rfl, fun _ => rfl, fun h => absurd h (by decide)⟩
  rw [if_pos kb, m46_eq ha.sm, sb]
  simp only [Bool.and_eq_true] at va vb
  obtain ⟨_, _, _, hVb⟩ := (vok_arr kb).1 vb.2
  obtain ⟨y', e1⟩ := union_loop a.fItems b a.fNum a.fStr (by omega) hb hVb.2 b.fItems.length 0 (by omega) (by omega) a.fNext
  replace e1 : m_i_Union_L2 b a.fKind a.fNum a.fStr a.fNext a.fItems 0 = some (4, a.fNum, a.fStr, y', a.fItems ++ filt a.fItems b.fItems) := by
    rw [ka, ← e1]
    simp [filt]
  rw [e1, sb]
  show ∃ u bad, (m93 a.fNext b.fNext >>= fun v40 => m_i_Weight (TValue.mk 4 a.fNum a.fStr v40 (a.fItems ++ filt a.fItems b.fItems)) >>= fun v42 =>
          (if v42 > 200 then
            some ((TValue.mk 0 0 [] 0 []), 9)
          else
            some ((TValue.mk 4 a.fNum a.fStr v40 (a.fItems ++ filt a.fItems b.fItems)), 0))) = some (u, bad) ∧ _
  rw [m93_eq, sb, weight_eq 1000000 (Nat.le_refl _) _ (by have := union_wt ha hb 4 a.fNum a.fStr (if b.fNext > a.fNext then b.fNext else a.fNext); omega), sb]
  by_cases hw : ((TValue.mk 4 a.fNum a.fStr (if b.fNext > a.fNext then b.fNext else a.fNext) (a.fItems ++ filt a.fItems b.fItems)).kw : Int) > 200
  · rw [if_pos hw]
    exact ⟨_, _, rfl, fun _ => rfl, fun h => absurd h (by decide)⟩
  · rw [if_neg hw]
    exact ⟨_, _, rfl, fun h => absurd rfl h, fun _ => ⟨ka, kb, va.2, vb.2, rfl, by omega⟩⟩

theorem union_valid {a b u : TValue} (h : Un a b u) : u.vok = true := by
  obtain ⟨ka, kb, va, vb, rfl, _⟩ := h
  obtain ⟨s1, n1, x1, ⟨i1, d1⟩⟩ := (vok_arr ka).1 va
  obtain ⟨s2, n2, x2, ⟨i2, d2⟩⟩ := (vok_arr kb).1 vb
  rw [vok_arr rfl]
  simp only [TValue.fStr_mk, TValue.fNum_mk, TValue.fNext_mk, TValue.fItems_mk]
  refine ⟨s1, n1, by split <;> omega, fun e he => ?_, ?_⟩
  · rcases List.mem_append.1 he with h3 | h3
    · obtain ⟨g1, g2, g3⟩ := i1 e h3
      exact ⟨g1, g2.imp id (fun h => by split <;> omega), g3⟩
    · obtain ⟨g1, g2, g3⟩ := i2 e (List.mem_filter.1 h3).1
      exact ⟨g1, g2.imp id (fun h => by split <;> omega), g3⟩
  · rw [List.map_append, List.nodup_append]
    refine ⟨d1, d2.sublist ((List.filter_sublist).map _), fun k hk k' hk' he => ?_⟩
    subst he
    obtain ⟨e, he, rfl⟩ := List.mem_map.1 hk'
    have := (List.mem_filter.1 he).2
    rw [decide_eq_true hk] at this
    cases this

theorem drawUnion_ok {b : List UInt8} (h : b.length ≤ 1048576) : ∃ v x, m_s_DrawUnion b = some (v, x) ∧ Dv2 v ∧ Dv2 x := by
  unfold m_s_DrawUnion
  obtain ⟨c, e, hc⟩ := m36_ok h
  obtain ⟨v, c1, e1, hv, h1⟩ := m49_ok hc
  obtain ⟨x, c2, e2, hx, h2⟩ := m49_ok h1
  rw [e, sb, e1, sb]
  show ∃ v x, (m49 c1 >>= _) = some (v, x) ∧ _
  rw [e2, sb]
  exact ⟨_, _, rfl, hv, hx⟩

theorem loop1_ok {a b u : TValue} (ha : Dv2 a) (h : Un a b u) : ∀ m i : Nat, i ≤ a.fItems.length → a.fItems.length - i = m → m_l_FnUnion_L2 u.fItems a (i : Int) = some (.inl ()) := by
  have hla := ha.len
  have ha' : a.wt ≤ 2000 := ha
  obtain ⟨ka, kb, va, vb, rfl, _⟩ := h
  simp only [TValue.fItems_mk]
  intro m
  induction m with
  | zero => intro i h1 h2; rw [m_l_FnUnion_L2, if_neg (by omega)]
  | succ m ihm =>
    intro i h1 h2
    have hlt : i < a.fItems.length := by omega
    have hlt2 : i < (a.fItems ++ filt a.fItems b.fItems).length := by rw [List.length_append]; omega
    have hw := wt_item (List.getElem_mem hlt)
    rw [m_l_FnUnion_L2, if_pos (by omega), if_neg (by omega), idx_nat hlt2, sb, idx_nat hlt, sb, List.getElem_append_left hlt, if_pos rfl, sb, sb, m19_refl (sm_wt (by omega)), sb, if_pos rfl, w_succ (by omega)]
    exact ihm (i + 1) (by omega) (by omega)
theorem loop2_ok {a b u : TValue} (ha : Dv2 a) (hb : Dv2 b) (h : Un a b u) : ∀ m i : Nat, i ≤ b.fItems.length → b.fItems.length - i = m →
    m_l_FnUnion_L4 u.fItems u.fStr a b u.fKind u.fNum u.fNext (i : Int) = some (.inl ()) := by
  have hlb := hb.len
  have hb' : b.wt ≤ 2000 := hb
  have huw : u.wt ≤ 5000 := by rw [h.ueq]; exact union_wt ha hb _ _ _ _
  have hul := wt_len (v := u)
  have hui : u.fItems = a.fItems ++ filt a.fItems b.fItems := by rw [h.ueq, TValue.fItems_mk]
  have huk : u.fKind = 4 := by rw [h.ueq, TValue.fKind_mk]
  obtain ⟨_, _, _, ⟨i2, d2⟩⟩ := (vok_arr h.kb).1 h.vb
  intro m
  induction m with
  | zero => intro i h1 h2; rw [m_l_FnUnion_L4, if_neg (by omega)]
  | succ m ihm =>
    intro i h1 h2
    have hlt : i < b.fItems.length := by omega
    have hw := wt_item (List.getElem_mem hlt)
    obtain ⟨r, e, hat⟩ := m27_at u b.fItems[i].fKey huk (by omega)
    have hin : ∃ e ∈ u.fItems, e.fKey = b.fItems[i].fKey := by
      rw [hui]
      by_cases hm : b.fItems[i].fKey ∈ a.fItems.map (·.fKey)
      · obtain ⟨e0, he0, hk0⟩ := List.mem_map.1 hm
        exact ⟨e0, List.mem_append_left _ he0, hk0⟩
      · exact ⟨b.fItems[i], List.mem_append_right _ (List.mem_filter.2 ⟨List.getElem_mem hlt, by rw [decide_eq_false hm]; rfl⟩), rfl⟩
    rcases hat with ⟨rfl, hno⟩ | ⟨j, hj, rfl, h3, h4⟩
    · obtain ⟨e0, he0, hk0⟩ := hin; exact absurd hk0 (hno e0 he0)
    obtain ⟨x, g, e2, hg⟩ := getS ha h.ka b.fItems[i].fKey
    have ih := ihm (i + 1) (by omega) (by omega)
    have e25 := m25_at hj e (sm_wt (by omega))
    rw [m_l_FnUnion_L4, if_pos (by omega), idx_nat hlt, sb, TValue.eta, e25, sb, sb, w_succ (by omega)]
    show (((some b.fItems[i] : Option TEntry) >>= fun x67 => m_s_GetKey a x67.fKey >>= fun (v69, v70) => some v70) >>= fun b63 => (if true = true then (if b63 = true then _ else _) else _)) = _
    rw [sb, e2]
    show ((some g : Option Bool) >>= fun b63 => (if true = true then (if b63 = true then _ else _) else _)) = _
    rw [sb, if_pos rfl]
    cases g with
    | true => rw [if_pos rfl]; exact ih
    | false =>
      have hka := hg rfl
      have hval : u.fItems[j].fVal = b.fItems[i].fVal := by
        have hmem : u.fItems[j] ∈ a.fItems ++ filt a.fItems b.fItems := by rw [← hui]; exact List.getElem_mem hj
        rcases List.mem_append.1 hmem with h5 | h5
        · exact absurd h3 (hka _ h5)
        · rw [key_inj d2 _ _ (List.mem_filter.1 h5).1 (List.getElem_mem hlt) h3]
      rw [if_neg (by decide), sb, TValue.eta, hval, m19_refl (sm_wt (by omega)), sb, if_pos rfl]
      exact ih

theorem law_union (code : List UInt8) : m_l_FnUnion code = some true := by
  unfold m_l_FnUnion
  by_cases hb : (code.length : Int) > 1048576
  · rw [if_pos hb]
  rw [if_neg hb]
  obtain ⟨a, b, e, ha, hb⟩ := drawUnion_ok (b := code) (by omega)
  obtain ⟨u, bad, e1, h1, h2⟩ := union_ok ha hb
  rw [e, sb]
  show ((m_i_Union a b >>= _) >>= _) = _
  rw [e1, sb, sb]
  show (if bad = 0 then _ else _) = _
  by_cases hbad : bad = 0
  · rw [if_pos hbad]
    have hU := h2 hbad
    have l1 := loop1_ok ha hU a.fItems.length 0 (by omega) (by omega)
    have l2 := loop2_ok ha hb hU b.fItems.length 0 (by omega) (by omega)
    replace l1 : m_l_FnUnion_L2 u.fItems a 0 = some (.inl ()) := l1
    replace l2 : m_l_FnUnion_L4 u.fItems u.fStr a b u.fKind u.fNum u.fNext 0 = some (.inl ()) := l2
    have huw : u.wt ≤ 5000 := by rw [hU.ueq]; exact union_wt ha hb _ _ _ _
    have hkw := hU.kw
    obtain ⟨r, e3, g1, g2, g3⟩ := weigh_eq 1000000 (Nat.le_refl _) u (by omega) 200 (by omega) (by omega)
    rw [l1, sb]
    show ((m_l_FnUnion_L4 u.fItems u.fStr a b u.fKind u.fNum u.fNext 0) >>= _) = _
    rw [l2, sb]
    show (m22 (TValue.mk u.fKind u.fNum u.fStr u.fNext u.fItems) >>= _) = _
    rw [TValue.eta]
    unfold m22
    rw [e3, sb, if_pos (by have := g2 (by omega); omega), valid_eq 1000000 (Nat.le_refl _) u (by omega), sb, union_valid hU, sb]
  · rw [if_neg hbad, h1 hbad]; rfl
theorem lawUnion (code : List UInt8) : ACall Tryd.prog 3 [sl 1 cB code] [] (fun res _ => res = .bool true) :=
  (ok_l_FnUnion (law_union code)).mono (fun _ _ h => h.1)

end Go.Am
