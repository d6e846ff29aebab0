/- The law FnTables. -/
import Derived.Test.YtgkniabpdgaoiaaGreatDoorT6
import Derived.Test.YtgkniabpdgaoiaaGreatDoorT7
import Derived.Test.YtgkniabpdgaoiaaGreatDoorE1
import Derived.Test.YtgkniabpdgaoiaaGreatDoorK8
set_option linter.unusedVariables false
set_option linter.unusedSimpArgs false
namespace Go.Am
open Go Go.RowKit Go.Proofs
theorem l5copy_eq {v : TValue} (h : Sm v) : m_s_l5Copy v = some v := by
 induction h with
 | mk hl hi ih =>
  rename_i k n s x l
  have go : ∀ m i : Nat, i ≤ l.length → l.length - i = m → m_s_l5Copy_L2 (.mk k n s x l) (l.take i) (i : Int) = some l := by
   intro m
   induction m with
   | zero =>
    intro i h1 h2
    have : i = l.length := by omega
    rw [m_s_l5Copy_L2, TValue.fItems_mk, if_neg (by omega), this, List.take_length]
   | succ m ihm =>
    intro i h1 h2
    have hlt : i < l.length := by omega
    have e1 : idx l (i : Int) = some l[i] := idx_nat hlt
    rw [m_s_l5Copy_L2, TValue.fItems_mk, if_pos (by omega), e1, sb, sb, ih _ (List.getElem_mem hlt), sb,
     lapp_eq (by rw [List.length_take]; simp only [List.length_cons, List.length_nil]; omega), sb, TEntry.eta, List.take_append_getElem hlt, w_succ (by omega)]
    exact ihm (i + 1) (by omega) (by omega)
  have e := go l.length 0 (by omega) (by omega)
  rw [m_s_l5Copy]
  replace e : m_s_l5Copy_L2 (.mk k n s x l) [] 0 = some l := e
  rw [e]; rfl
theorem value2_go (a : TTable) (hl : a.fSlots.length ≤ 1000) (hs : ∀ e ∈ lv a.fSlots, Sm e.fVal) : ∀ (f i : Nat), a.fSlots.length ≤ i + f → i ≤ a.fSlots.length → m_i_TableValue_L2 a (lv (a.fSlots.take i)) (i : Int) = some (lv a.fSlots)
 | f, i, hf, hi => by
  rw [m_i_TableValue_L2]
  by_cases hc : i < a.fSlots.length
  ·obtain ⟨g, rfl⟩ : ∃ g, f = g + 1 := ⟨f - 1, by omega⟩
   have ih := value2_go a hl hs g (i + 1) (by omega) (by omega)
   have hlv := lv_len (a.fSlots.take i)
   rw [lv_take hc] at ih
   rw [if_pos (by omega), idx_nat hc, sb, w_succ (by omega)]
   by_cases q : a.fSlots[i].fLive = true
   ·rw [if_pos q] at ih ⊢
    have hm : slE a.fSlots[i] ∈ lv a.fSlots := lv_mem.2 ⟨_, List.getElem_mem hc, q, rfl⟩
    have := hs _ hm
    rw [m46_eq (show Sm a.fSlots[i].fVal from this), sb, lapp_eq (by simp at hlv ⊢; omega), sb]
    exact ih
   ·rw [if_neg q] at ih ⊢
    rw [List.append_nil] at ih
    exact ih
  ·have : i = a.fSlots.length := by omega
   subst this
   rw [if_neg (by omega), List.take_length]
theorem value2 (a : TTable) (hl : a.fSlots.length ≤ 1000) (hs : ∀ e ∈ lv a.fSlots, Sm e.fVal) : m_i_TableValue a = some (TValue.mk 4 0 [] a.fNext (lv a.fSlots)) := by
 have e : m_i_TableValue_L2 a [] 0 = some (lv a.fSlots) := value2_go a hl hs a.fSlots.length 0 (by omega) (by omega)
 unfold m_i_TableValue
 rw [e, sb]
theorem copy_go (a : TTable) (hl : a.fSlots.length ≤ 1000) (hs : ∀ s ∈ a.fSlots, Sm s.fVal) : ∀ (f i : Nat), a.fSlots.length ≤ i + f → i ≤ a.fSlots.length → m_i_copyTable_L2 a (a.fSlots.take i) (i : Int) = some a.fSlots
 | f, i, hf, hi => by
  rw [m_i_copyTable_L2]
  by_cases hc : i < a.fSlots.length
  ·obtain ⟨g, rfl⟩ : ∃ g, f = g + 1 := ⟨f - 1, by omega⟩
   have ih := copy_go a hl hs g (i + 1) (by omega) (by omega)
   have e2 : a.fSlots.take (i + 1) = a.fSlots.take i ++ [a.fSlots[i]] := (List.take_append_getElem hc).symm
   rw [e2] at ih
   rw [if_pos (by omega), idx_nat hc, sb, w_succ (by omega), m46_eq (hs _ (List.getElem_mem hc)), sb, lapp_eq (by simp; omega), sb]
   exact ih
  ·have : i = a.fSlots.length := by omega
   subst this
   rw [if_neg (by omega), List.take_length]
theorem copy_eq {t : TTable} (h : TB t) (hl : t.fSlots.length ≤ 1000) : m_i_copyTable t = some t := by
 have e : m_i_copyTable_L2 t [] 0 = some t.fSlots := copy_go t hl h.sm t.fSlots.length 0 (by omega) (by omega)
 have := h.hl
 unfold m_i_copyTable
 rw [lapp_eq (by simp; omega), sb, sb, e, sb, List.nil_append]
theorem zv_wt {v : TValue} (h : zv v = true) : v = TValue.mk 0 0 [] 0 [] := by
 cases v with
 | mk k n s x l =>
  unfold zv at h
  simp at h
  obtain ⟨⟨⟨⟨h1, h2⟩, h3⟩, h4⟩, h5⟩ := h
  subst h1 h2 h3 h4 h5
  rfl
theorem VT.tb {t : TTable} (h : VT t) (hs : ∀ e ∈ lv t.fSlots, Sm e.fVal) : TB t := by
 refine ⟨by have := h.sl; omega, ?_, fun s hs => vk_kb (h.vc.kv s hs).1, fun s hm => ?_⟩
 ·have hz := h.sz
  unfold H1 at hz
  split at hz
  ·have := hz.1.bd; omega
  ·omega
 ·rcases (h.vc.kv s hm).2.2 with q | q
  ·exact hs (slE s) (lv_mem.2 ⟨s, hm, q, rfl⟩)
  ·rw [zv_wt q]; exact sm_wt (by rw [dv_flat]; decide)
theorem find_iff {L : List TSlot} (hd : Dis L) (k : TKey) : decide (lastAt L k L.length ≥ 0) = decide (∃ e ∈ lv L, e.fKey = k) := by
 rcases find_at hd k with ⟨e, q, _⟩ | ⟨j, h, e, h1, h2, _⟩
 ·rw [e, decide_eq_false (by omega), decide_eq_false (fun ⟨x, hx, he⟩ => q x hx he)]
 ·rw [e, decide_eq_true (by omega), decide_eq_true ⟨slE L[j], lv_mem.2 ⟨_, List.getElem_mem h, h1, rfl⟩, h2⟩]
theorem at_iff {l : List TEntry} {k : TKey} {r : Int} (h : At l k r) : decide (r ≥ 0) = decide (∃ e ∈ l, e.fKey = k) := by
 rcases h with ⟨rfl, q⟩ | ⟨j, hj, rfl, q, _⟩
 ·rw [decide_eq_false (by omega), decide_eq_false (fun ⟨x, hx, he⟩ => q x hx he)]
 ·rw [decide_eq_true (by omega), decide_eq_true ⟨l[j], List.getElem_mem hj, q⟩]
theorem at_uniq {l : List TEntry} {k : TKey} {r q : Int} (h : At l k r) (h' : At l k q) : r = q := by
 rcases h' with ⟨rfl, h2⟩ | ⟨j, hj, rfl, h2, h3⟩
 ·rcases h with ⟨rfl, _⟩ | ⟨i, hi, rfl, h3, _⟩
  ·rfl
  ·exact absurd h3 (h2 _ (List.getElem_mem hi))
 ·exact h.uniq hj h2 h3
theorem findSlot_eq {t : TTable} (hb : TB t) (h : VT t) {k : TKey} (hk : KB k) : ∃ r, m_i_FindSlot t k = some r ∧ decide (r ≥ 0) = decide (∃ e ∈ lv t.fSlots, e.fKey = k) := by
 unfold m_i_FindSlot
 rw [(iist hb).1 h, sb, if_pos rfl, slotOf_eq h.vc h.sl hk, sb]
 exact ⟨_, rfl, find_iff h.vc.dis k⟩
theorem wtL_one : ∀ l : List TEntry, (∀ e ∈ l, e.fVal.wt = 1) → TEntry.wtL l = l.length
 | [], _ => wtL_nil
 | x :: r, h => by
  rw [wtL_cons, wtL_one r (fun e he => h e (List.mem_cons_of_mem _ he)), h x (by simp)]
  simp; omega
theorem m87_eq {nx : Int} {l : List TEntry} {k : TKey} (x : TValue) {r : Int} (hl : l.length ≤ 1000) (h : At l k r) :
  m87 (TValue.mk 4 0 [] nx l) k x = some (TValue.mk 4 0 [] (if r ≥ 0 then nx else nxt nx k) (putL l k x r)) := by
 obtain ⟨r', e, h'⟩ := m90_at (TValue.mk 4 0 [] nx l) k rfl (by show l.length ≤ _; omega)
 obtain rfl := at_uniq h h'
 unfold m87
 rw [e]
 have e0 : lapp 96 ([] : List TEntry) (TValue.mk 4 0 [] nx l).fItems = some l := lapp_eq (by show (([] : List TEntry).length + l.length) * 96 ≤ _; simp; omega)
 rw [e0, sb, sb, sb]
 unfold putL
 rcases h with ⟨rfl, q⟩ | ⟨j, hj, rfl, q, _⟩
 ·rw [if_neg (by omega), sb]
  dsimp only
  rw [lapp_eq (by simp; omega), sb, sb, if_neg (show ¬ ((-1 : Int) ≥ 0) by omega), if_neg (show ¬ ((-1 : Int) ≥ 0) by omega)]
  unfold nxt
  by_cases ht : k.fText = true
  ·rw [if_pos ht, if_pos ht]; rfl
  ·rw [if_neg ht, if_neg ht, m91_eq, sb]; rfl
 ·rw [if_pos (by omega), idx_nat hj, sb, sb, if_pos (by omega), if_pos (by omega), q]; rfl
theorem drop_eq {nx : Int} {l : List TEntry} {k : TKey} {r : Int} (hl : l.length ≤ 1000) (h : At l k r) :
  m_s_l6Drop (TValue.mk 4 0 [] nx l) k = some (TValue.mk 4 0 [] nx (if r ≥ 0 then l.take r.toNat ++ l.drop (r.toNat + 1) else l)) := by
 obtain ⟨r', e, h'⟩ := m90_at (TValue.mk 4 0 [] nx l) k rfl (by show l.length ≤ _; omega)
 obtain rfl := at_uniq h h'
 unfold m_s_l6Drop
 rw [e, sb]
 rcases h with ⟨rfl, q⟩ | ⟨j, hj, rfl, q, _⟩
 ·rw [if_pos (by omega), if_neg (by omega)]
 ·have e1 : lto l (j : Int) = some (l.take j) := by unfold lto; rw [if_pos ⟨by omega, by omega⟩]; rfl
  have e2 : lfrom l (W64 ((j : Int) + 1)) = some (l.drop (j + 1)) := by
   rw [w_succ (by omega)]; unfold lfrom; rw [if_pos ⟨by omega, by omega⟩]; rfl
  rw [if_neg (by omega), if_pos (by omega)]
  show (lto l (j : Int) >>= fun l4 => lfrom l (W64 ((j : Int) + 1)) >>= fun l6 => _) = _
  rw [e1, sb, e2, sb, lapp_eq (by simp; omega), sb, lapp_eq (by simp; omega), sb]
  rfl
theorem get_eq {nx : Int} {l : List TEntry} {k : TKey} {r : Int} (hl : l.length ≤ 1000) (h : At l k r) (hs : ∀ e ∈ l, Sm e.fVal) :
  ∃ x, m_s_GetKey (TValue.mk 4 0 [] nx l) k = some (x, decide (r ≥ 0)) := by
 obtain ⟨r', e, h'⟩ := m90_at (TValue.mk 4 0 [] nx l) k rfl (by show l.length ≤ _; omega)
 obtain rfl := at_uniq h h'
 unfold m_s_GetKey m_s_l6Get
 rw [e, sb]
 rcases h with ⟨rfl, q⟩ | ⟨j, hj, rfl, q, _⟩
 ·rw [if_pos (by omega), sb]
  dsimp only
  rw [l5copy_eq (sm_wt (by rw [dv_flat]; decide)), sb]
  exact ⟨_, rfl⟩
 ·have ei : idx (TValue.mk 4 0 [] nx l).fItems (j : Int) = some l[j] := idx_nat hj
  rw [if_neg (by omega), ei, sb, sb]
  dsimp only
  rw [l5copy_eq (hs _ (List.getElem_mem hj)), sb, decide_eq_true (by omega)]
  exact ⟨_, rfl⟩
theorem law_tables (code : List UInt8) : m_l_FnTables code = some true := by
 unfold m_l_FnTables
 by_cases hb : (code.length : Int) > 1048576
 ·rw [if_pos hb]
 rw [if_neg hb]
 obtain ⟨t, k, v, ed, td, hk, hv⟩ := drawSet (b := code) (by omega)
 have hsl := td.sl
 have hhl := td.hl
 have hB : TB t := ⟨by omega, by omega, fun s hs => (td.kb s hs).1, fun s hs => sm_wt (by rw [(td.kb s hs).2]; decide)⟩
 have hlv := lv_len t.fSlots
 have hone : ∀ e ∈ lv t.fSlots, e.fVal.wt = 1 := fun e he => by
  obtain ⟨s, hs, _, rfl⟩ := lv_mem.1 he
  exact (td.kb s hs).2
 have hsm : ∀ e ∈ lv t.fSlots, Sm e.fVal := fun e he => sm_wt (by rw [hone e he]; decide)
 have hvs : Sm v := sm_wt (by omega)
 have awt : (TValue.mk 4 0 [] t.fNext (lv t.fSlots)).wt ≤ 100 := by
  rw [TValue.wt_eq, TValue.fItems_mk, wtL_one _ hone]; omega
 rw [ed, sb]
 dsimp only
 rw [sb]
 dsimp only
 rw [show TTable.mk t.fHashed t.fHeads t.fSlots t.fNext t.fCount = t from rfl, show TKey.mk k.fText k.fNum k.fStr = k from rfl, TValue.eta]
 have eval := value2 t (by omega) hsm
 by_cases hok : VT t ∧ vk k = true
 case neg =>
  have e1 : m_i_TableSet t k v = some (t, false) := by
   unfold m_i_TableSet
   rw [copy_eq hB (by omega), sb]
   by_cases h1 : VT t
   ·rw [(iist hB).1 h1, sb, if_pos rfl, m55_eq, sb, if_neg (fun q => hok ⟨h1, q⟩)]
   ·rw [(iist hB).2 h1, sb, if_neg (by simp)]
  rw [e1, sb]
  dsimp only
  rw [eval, sb, sb]
  dsimp only
  rw [TValue.eta]
  have e2 : m19 (TValue.mk 4 0 [] t.fNext (lv t.fSlots)) (TValue.mk 4 0 [] t.fNext (lv t.fSlots)) = some true := m19_refl (sm_wt (by omega))
  by_cases h1 : VT t
  ·have h2 : ¬ vk k = true := fun q => hok ⟨h1, q⟩
   rw [(sist hB).1 h1, sb, if_pos rfl, m23_eq, sb, if_neg h2]
   simp only [Bool.false_eq_true, if_false, sb, e2]
  ·rw [(sist hB).2 h1, sb]
   simp only [Bool.false_eq_true, if_false, sb, e2]
 obtain ⟨ht, hkv⟩ := hok
 have hd := ht.vc.dis
 obtain ⟨r, hat, hcase⟩ : ∃ r, At (lv t.fSlots) k r ∧ ((lastAt t.fSlots k t.fSlots.length = -1 ∧ r = -1 ∧ ∀ e ∈ lv t.fSlots, e.fKey ≠ k) ∨ ∃ j, ∃ h : j < t.fSlots.length, lastAt t.fSlots k t.fSlots.length = (j : Int) ∧ t.fSlots[j].fLive = true ∧ t.fSlots[j].fKey = k ∧ r = (plc t.fSlots j : Int)) := by
  rcases find_at hd k with ⟨e, q, h⟩ | ⟨j, h, e, h1, h2, h3⟩
  ·exact ⟨-1, h, .inl ⟨e, rfl, q⟩⟩
  ·exact ⟨_, h3, .inr ⟨j, h, e, h1, h2, rfl⟩⟩
 have slot := slotOf_eq ht.vc ht.sl hk
 have hset : ∃ x, m_i_TableSet t k v = some (x, true) ∧ VT x ∧ x.fSlots.length ≤ 41 ∧ x.fNext = (if r ≥ 0 then t.fNext else nxt t.fNext k) ∧ lv x.fSlots = putL (lv t.fSlots) k v r := by
  unfold m_i_TableSet
  rw [copy_eq hB (by omega), sb, (iist hB).1 ht, sb, if_pos rfl, m55_eq, sb, if_pos hkv, slot, sb]
  rcases hcase with ⟨e, rfl, q⟩ | ⟨j, hj, e, h1, h2, rfl⟩
  ·obtain ⟨x, ex, hx⟩ := put2 ht.vc (by omega) hkv v q e
   rw [e, if_pos (by omega), if_neg (by rw [ht.ct]; omega), m46_eq hvs, sb, ex, sb]
   refine ⟨x, rfl, hx.vt, by have := hx.ln; omega, ?_, ?_⟩
   ·rw [hx.nx, if_neg (by omega)]
   ·rw [hx.lv]; unfold putL; rw [if_neg (by omega)]
  ·rw [e, if_neg (by omega), m46_eq hvs, sb]
   have ep : m_i_putSlot t k v = some (TTable.mk t.fHashed t.fHeads (t.fSlots.set j (TSlot.mk k v true t.fSlots[j].fLink)) t.fNext t.fCount) := by
    unfold m_i_putSlot
    rw [slot, e, sb, if_pos (by omega), idx_nat hj, sb, Int.toNat_natCast, h1, h2]
   rw [ep, sb]
   have el : lv (t.fSlots.set j (TSlot.mk k v true t.fSlots[j].fLink)) = (lv t.fSlots).set (plc t.fSlots j) (TEntry.mk k v) := lv_set hj h1 rfl
   have hvt := vt_set ht.vc hj (s := TSlot.mk k v true t.fSlots[j].fLink) h2.symm rfl (.inl rfl) (fun hd => Dis.of (by
    rw [el, List.map_set]
    have hn := hd.nodup
    have e3 : ((lv t.fSlots).map (·.fKey)).set (plc t.fSlots j) k = (lv t.fSlots).map (·.fKey) := by
     refine List.ext_getElem? fun i => ?_
     rw [List.getElem?_set]
     by_cases q : plc t.fSlots j = i
     ·subst q
      have hp := plc_lt hj h1
      rw [if_pos rfl, if_pos (by simpa using hp), List.getElem?_map, List.getElem?_eq_getElem hp, plc_get hj h1, ← h2]; rfl
     ·rw [if_neg q]
    show (((lv t.fSlots).map (·.fKey)).set (plc t.fSlots j) k).Nodup
    rw [e3]; exact hn))
   rw [el, List.length_set, ← ht.ct] at hvt
   refine ⟨_, rfl, hvt, by simp; omega, ?_, ?_⟩
   ·rw [if_pos (by omega)]
   ·show lv (t.fSlots.set j (TSlot.mk k v true t.fSlots[j].fLink)) = _
    rw [el]; unfold putL; rw [if_pos (by omega), Int.toNat_natCast]
 obtain ⟨x, ex, hxt, hxl, hxn, hxv⟩ := hset
 have hdel : ∃ y, m_i_TableDelete t k = some y ∧ VT y ∧ y.fSlots.length ≤ 41 ∧ y.fNext = t.fNext ∧ lv y.fSlots = (if r ≥ 0 then (lv t.fSlots).take r.toNat ++ (lv t.fSlots).drop (r.toNat + 1) else lv t.fSlots) := by
  unfold m_i_TableDelete
  rw [copy_eq hB (by omega), sb, (iist hB).1 ht, sb, if_pos rfl, slot, sb]
  rcases hcase with ⟨e, rfl, q⟩ | ⟨j, hj, e, h1, h2, rfl⟩
  ·rw [e, if_neg (by omega)]
   exact ⟨t, rfl, ht, by omega, rfl, by rw [if_neg (by omega)]⟩
  ·have e2 : ∀ s : TSlot, idx (t.fSlots.set j s) (j : Int) = some s := fun s => by rw [idx_nat (by simpa using hj), List.getElem_set_self]
   have el : ∀ s : TSlot, ¬ s.fLive = true → lv (t.fSlots.set j s) = (lv t.fSlots).take (plc t.fSlots j) ++ (lv t.fSlots).drop (plc t.fSlots j + 1) := fun s hs => lv_dead hj h1 hs
   have hp := plc_lt hj h1
   rw [e, if_pos (by omega), idx_nat hj, sb, Int.toNat_natCast, e2, sb, List.set_set]
   have hvt := vt_set ht.vc hj (s := TSlot.mk t.fSlots[j].fKey (TValue.mk 0 0 [] 0 []) false t.fSlots[j].fLink) rfl rfl (.inr rfl) (fun hd => Dis.of (by
    rw [el _ (by simp)]
    have hn := hd.nodup
    rw [List.map_append, List.map_take, List.map_drop]
    refine List.Nodup.sublist ?_ hn
    have : ((lv t.fSlots).map (·.fKey)) = ((lv t.fSlots).map (·.fKey)).take (plc t.fSlots j) ++ ((lv t.fSlots).map (·.fKey)).drop (plc t.fSlots j) := (List.take_append_drop _ _).symm
    conv => rhs; rw [this]
    exact List.Sublist.append (List.Sublist.refl _) (List.drop_sublist_drop_left _ (Nat.le_succ _))))
   have ec : W64 (t.fCount - 1) = ((lv (t.fSlots.set j (TSlot.mk t.fSlots[j].fKey (TValue.mk 0 0 [] 0 []) false t.fSlots[j].fLink))).length : Int) := by
    rw [ht.ct, el _ (by simp), W64, w64 (by omega) (by omega), List.length_append, List.length_take, List.length_drop]
    omega
   rw [ec]
   refine ⟨_, rfl, hvt, by simp; omega, rfl, ?_⟩
   show lv (t.fSlots.set j _) = _
   rw [el _ (by simp), if_pos (by omega), Int.toNat_natCast]
 obtain ⟨y, ey, hyt, hyl, hyn, hyv⟩ := hdel
 have hreb : ∃ z, m_i_Rebuild t = some z ∧ VT z ∧ z.fSlots.length ≤ 41 ∧ z.fNext = t.fNext ∧ lv z.fSlots = lv t.fSlots ∧ z.fHashed = true := by
  obtain ⟨n, hp, hlt, er⟩ := rebuilt2 t (by omega) hB.kb ht.ct
  obtain ⟨f1, f2, f3, f4⟩ := bsl_all (n := n) (lv t.fSlots)
  unfold m_i_Rebuild
  rw [copy_eq hB (by omega), sb, (iist hB).1 ht, sb, if_pos rfl, if_neg (by rw [ht.ct]; omega), er, sb]
  refine ⟨_, rfl, VT.hashed ht.nx hp (by rw [f3]; omega) f1 (bsl_kv ht.vc.kv) (bsl_dis hd) (by rw [f2]), by show (bsl n (lv t.fSlots)).length ≤ 41; rw [f3]; omega, rfl, f2, rfl⟩
 obtain ⟨z, ez, hzt, hzl, hzn, hzv, hzh⟩ := hreb
 have xsm : ∀ e ∈ lv x.fSlots, Sm e.fVal := fun e he => by
  rw [hxv] at he
  unfold putL at he
  split at he
  ·rcases List.mem_or_eq_of_mem_set he with q | rfl
   ·exact hsm e q
   ·exact hvs
  ·rcases List.mem_append.1 he with q | q
   ·exact hsm e q
   ·obtain rfl := List.mem_singleton.1 q
    exact hvs
 have ysm : ∀ e ∈ lv y.fSlots, Sm e.fVal := fun e he => by
  rw [hyv] at he
  split at he
  ·rcases List.mem_append.1 he with q | q
   ·exact hsm e (List.mem_of_mem_take q)
   ·exact hsm e (List.mem_of_mem_drop q)
  ·exact hsm e he
 have zsm : ∀ e ∈ lv z.fSlots, Sm e.fVal := fun e he => by rw [hzv] at he; exact hsm e he
 have xB := hxt.tb xsm
 have yB := hyt.tb ysm
 have zB := hzt.tb zsm
 have vx := value2 x (by omega) xsm
 have vy := value2 y (by omega) ysm
 have vz := value2 z (by omega) zsm
 rw [hxn, hxv] at vx
 rw [hyn, hyv] at vy
 rw [hzn, hzv] at vz
 obtain ⟨gx, eg⟩ := get_eq (nx := t.fNext) (by omega) hat hsm
 have es := m87_eq (nx := t.fNext) v (by omega) hat
 have edr := drop_eq (nx := t.fNext) (by omega) hat
 have smx : Sm (TValue.mk 4 0 [] (if r ≥ 0 then t.fNext else nxt t.fNext k) (putL (lv t.fSlots) k v r)) := Sm.of (by
  show (putL (lv t.fSlots) k v r).length ≤ 1000000
  have := lv_len x.fSlots
  rw [hxv] at this; omega) (fun e he => xsm e (by rw [hxv]; exact he))
 have smy : Sm (TValue.mk 4 0 [] t.fNext (if r ≥ 0 then (lv t.fSlots).take r.toNat ++ (lv t.fSlots).drop (r.toNat + 1) else lv t.fSlots)) := Sm.of (by
  have := lv_len y.fSlots
  rw [hyv] at this
  exact Nat.le_trans this (by omega)) (fun e he => ysm e (by rw [hyv]; exact he))
 have sma : Sm (TValue.mk 4 0 [] t.fNext (lv t.fSlots)) := sm_wt (by omega)
 have eset : m_s_SetKey (TValue.mk 4 0 [] t.fNext (lv t.fSlots)) k v = some (TValue.mk 4 0 [] (if r ≥ 0 then t.fNext else nxt t.fNext k) (putL (lv t.fSlots) k v r), true) := by
  unfold m_s_SetKey
  rw [if_pos (show (TValue.mk 4 0 [] t.fNext (lv t.fSlots)).fKind = 4 from rfl), m23_eq, sb, if_pos hkv, es, sb, l5copy_eq smx, sb]
 have edel : m_s_DeleteKey (TValue.mk 4 0 [] t.fNext (lv t.fSlots)) k = some (TValue.mk 4 0 [] t.fNext (if r ≥ 0 then (lv t.fSlots).take r.toNat ++ (lv t.fSlots).drop (r.toNat + 1) else lv t.fSlots)) := by
  unfold m_s_DeleteKey
  rw [edr, sb, l5copy_eq smy, sb]
 obtain ⟨q1, f1, g1⟩ := findSlot_eq hB ht hk
 obtain ⟨q2, f2, g2⟩ := findSlot_eq zB hzt hk
 rw [hzv, ← at_iff hat] at g2
 rw [← at_iff hat] at g1
 rw [ex, sb]
 dsimp only
 rw [eval, sb, sb]
 dsimp only
 rw [TValue.eta]
 rw [(sist hB).1 ht, sb, if_pos rfl, m23_eq, sb, if_pos hkv, sb]
 dsimp only
 rw [eg, sb]
 dsimp only
 rw [eset, sb]
 dsimp only
 rw [sb]
 dsimp only
 rw [TValue.eta]
 rw [ey, sb, ez, sb, if_pos rfl, vx, sb, m19_refl smx, sb, if_pos rfl, vy, sb, edel, sb, m19_refl smy, sb, if_pos rfl, vz, sb, m19_refl sma, sb, if_pos rfl, sb]
 dsimp only
 rw [(sist xB).1 hxt, sb, if_pos rfl, (sist yB).1 hyt, sb, if_pos rfl, (sist zB).1 hzt, sb, if_pos rfl, if_pos hzh, f1, sb, if_pos g1, f2, sb, g2]
 simp
theorem lawTables (code : List UInt8) : ACall Tryz.prog 3 [sl 1 cB code] [] (fun res _ => res = .bool true) :=
 (ok_l_FnTables (law_tables code)).mono (fun _ _ h => h.1)
end Go.Am
