/- The plain law: a key set in a valid table, and one deleted. -/
import Derived.Test.YtgkniabpdgaoiaaGreatDoorT4
set_option linter.unusedVariables false
set_option linter.unusedSimpArgs false
namespace Go.Am
open Go Go.RowKit Go.Proofs
theorem cutAt {α : Type} {L : List α} {j : Nat} (h : j < L.length) : L = L.take j ++ L[j] :: L.drop (j + 1) := by
 rw [← List.drop_eq_getElem_cons h, List.take_append_drop]
theorem setAt {α : Type} {L : List α} {j : Nat} (h : j < L.length) (s : α) : L.set j s = L.take j ++ s :: L.drop (j + 1) := by
 rw [List.set_eq_take_append_cons_drop, if_pos h]
theorem lv_cons (s : TSlot) (L : List TSlot) : lv (s :: L) = (if s.fLive = true then [slE s] else []) ++ lv L := by
 have := lv_app [s] L
 rw [lv_one] at this
 exact this
def plc (L : List TSlot) (j : Nat) : Nat := (lv (L.take j)).length
theorem lv_at {L : List TSlot} {j : Nat} (h : j < L.length) (hl : L[j].fLive = true) : lv L = lv (L.take j) ++ slE L[j] :: lv (L.drop (j + 1)) := by
 have e := cutAt h
 have e2 : lv L = lv (L.take j ++ L[j] :: L.drop (j + 1)) := by rw [← e]
 rw [e2, lv_app, lv_cons, if_pos hl]
 rfl
theorem plc_lt {L : List TSlot} {j : Nat} (h : j < L.length) (hl : L[j].fLive = true) : plc L j < (lv L).length := by
 rw [lv_at h hl]; unfold plc; simp
theorem plc_get {L : List TSlot} {j : Nat} (h : j < L.length) (hl : L[j].fLive = true) : (lv L)[plc L j]'(plc_lt h hl) = slE L[j] := by
 have : (lv L)[plc L j]? = some (slE L[j]) := by
  rw [lv_at h hl]; unfold plc
  rw [List.getElem?_append_right (Nat.le_refl _), Nat.sub_self]; rfl
 obtain ⟨_, e⟩ := List.getElem?_eq_some_iff.1 this
 exact e
theorem lv_set {L : List TSlot} {j : Nat} (h : j < L.length) (hl : L[j].fLive = true) {s : TSlot} (hs : s.fLive = true) : lv (L.set j s) = (lv L).set (plc L j) (slE s) := by
 rw [setAt h, lv_app, lv_cons, if_pos hs, lv_at h hl]
 unfold plc
 rw [List.set_append_right _ _ (Nat.le_refl _), Nat.sub_self]
 rfl
theorem lv_dead {L : List TSlot} {j : Nat} (h : j < L.length) (hl : L[j].fLive = true) {s : TSlot} (hs : ¬ s.fLive = true) : lv (L.set j s) = (lv L).take (plc L j) ++ (lv L).drop (plc L j + 1) := by
 rw [setAt h, lv_app, lv_cons, if_neg hs, lv_at h hl]
 unfold plc
 have e : ∀ (A : List TEntry) (x : TEntry) (B : List TEntry), (A ++ x :: B).drop (A.length + 1) = B := fun A x B => by rw [← List.drop_drop, List.drop_left]; rfl
 rw [List.take_left' rfl, e]
 rfl
theorem find_at {L : List TSlot} (hd : Dis L) (k : TKey) : (lastAt L k L.length = -1 ∧ (∀ e ∈ lv L, e.fKey ≠ k) ∧ At (lv L) k (-1)) ∨ ∃ j, ∃ h : j < L.length, lastAt L k L.length = (j : Int) ∧ L[j].fLive = true ∧ L[j].fKey = k ∧ At (lv L) k (plc L j : Int) := by
 rcases lastAt_spec L k L.length (Nat.le_refl _) with ⟨e, h⟩ | ⟨j, h, e, h1, h2⟩
 ·have q : ∀ e ∈ lv L, e.fKey ≠ k := fun x hx => by
   obtain ⟨s, hs, h1, rfl⟩ := lv_mem.1 hx
   obtain ⟨i, hi, rfl⟩ := List.mem_iff_getElem.1 hs
   exact h i hi hi h1
  exact .inl ⟨e, q, .inl ⟨rfl, q⟩⟩
 ·refine .inr ⟨j, h, e, h1, h2, .inr ⟨plc L j, plc_lt h h1, rfl, ?_, fun i hi q => ?_⟩⟩
  ·rw [plc_get h h1]; exact h2
  ·have hn := hd.nodup
   have hp := plc_lt h h1
   have := List.pairwise_iff_getElem.1 hn i (plc L j) (by simp; omega) (by simp; omega) hi
   simp only [List.getElem_map] at this
   rw [plc_get h h1] at this
   exact this (q.trans h2.symm)
theorem keys_set {L : List TSlot} {j : Nat} (h : j < L.length) {s : TSlot} (hk : s.fKey = L[j].fKey) : ∀ i (h1 : i < (L.set j s).length) (h2 : i < L.length), (L.set j s)[i].fKey = L[i].fKey := fun i h1 h2 => by
 rw [List.getElem_set]
 by_cases e : j = i
 ·subst e; rw [if_pos rfl, hk]
 ·rw [if_neg e]
theorem hds_set {n : Nat} {L : List TSlot} {j : Nat} (h : j < L.length) {s : TSlot} (hk : s.fKey = L[j].fKey) : ∀ m, m ≤ L.length → hds n ((L.set j s).take m) = hds n (L.take m) :=
 fun m hm => hds_keys (by simp) (keys_set h hk) m (by simpa using hm)
theorem hds_setA {n : Nat} {L : List TSlot} {j : Nat} (h : j < L.length) {s : TSlot} (hk : s.fKey = L[j].fKey) : hds n (L.set j s) = hds n L := by
 have := hds_set (n := n) h hk L.length (Nat.le_refl _)
 rw [List.take_length] at this
 rw [← this, List.take_of_length_le (by simp)]
theorem Lk.set {n : Nat} {L : List TSlot} (hl : Lk n L) {j : Nat} (h : j < L.length) {s : TSlot} (hk : s.fKey = L[j].fKey) (hlk : s.fLink = L[j].fLink) : Lk n (L.set j s) := by
 intro i hi
 have hi2 : i < L.length := by simpa using hi
 rw [lnk_eq hi, hds_set h hk i (by omega), keys_set h hk i hi hi2, ← lnk_eq hi2, ← hl i hi2, List.getElem_set]
 by_cases e : j = i
 ·subst e; rw [if_pos rfl, hlk]
 ·rw [if_neg e]
theorem mem_set' {α : Type} {L : List α} {j : Nat} {s x : α} (h : x ∈ L.set j s) : x ∈ L ∨ x = s := List.mem_or_eq_of_mem_set h
theorem vt_set {t : TTable} (ht : VC t) {j : Nat} (h : j < t.fSlots.length) {s : TSlot} (hk : s.fKey = t.fSlots[j].fKey) (hlk : s.fLink = t.fSlots[j].fLink) (hz : s.fLive = true ∨ zv s.fVal = true) (hd : Dis t.fSlots → Dis (t.fSlots.set j s)) :
  VT (TTable.mk t.fHashed t.fHeads (t.fSlots.set j s) t.fNext ((lv (t.fSlots.set j s)).length : Int)) := by
 cases ht with
 | hashed n L nx h0 hp hle hl hv hdd =>
  dsimp only at *
  rw [← hds_setA (n := n) h hk]
  refine VT.hashed h0 hp (by simpa using hle) (hl.set h hk hlk) (fun x hx => ?_) (hd hdd) rfl
  rcases mem_set' hx with q | rfl
  ·exact hv x q
  ·obtain ⟨q1, q2, _⟩ := hv _ (List.getElem_mem h)
   exact ⟨by rw [hk]; exact q1, by rw [hk]; exact q2, hz⟩
 | flat L nx h0 h1 hle hkk hv =>
  dsimp only at *
  refine VT.flat h0 (by simpa using h1) (by simpa using hle) (fun i hi => ?_) (fun x hx => ?_) rfl
  ·have hi2 : i < L.length := by simpa using hi
   rw [keys_set h hk i hi hi2]
   refine ⟨(hkk i hi2).1, ?_⟩
   rw [List.getElem_set]
   by_cases e : j = i
   ·subst e; rw [if_pos rfl, hlk]; exact (hkk j hi2).2
   ·rw [if_neg e]; exact (hkk i hi2).2
  ·rcases mem_set' hx with q | rfl
   ·exact hv x q
   ·obtain ⟨q1, q2, _⟩ := hv _ (List.getElem_mem h)
    exact ⟨by rw [hk]; exact q1, by rw [hk]; exact q2, hz⟩
theorem VC.dis {t : TTable} (h : VC t) : Dis t.fSlots := by
 cases h with
 | hashed n L nx h0 hp hle hl hv hdd => exact hdd
 | flat L nx h0 h1 hle hkk hv => exact iK_dis fun i hi => (hkk i hi).1
theorem VC.kv {t : TTable} (h : VC t) : ∀ s ∈ t.fSlots, KV t.fNext s := by
 cases h with
 | hashed n L nx h0 hp hle hl hv hdd => exact hv
 | flat L nx h0 h1 hle hkk hv => exact hv
theorem VC.ct {t : TTable} (h : VC t) : t.fCount = ((lv t.fSlots).length : Int) := by cases h <;> rfl
theorem VC.nx {t : TTable} (h : VC t) : 0 ≤ t.fNext ∧ t.fNext ≤ 1000000001 := by
 cases h with
 | hashed n L nx h0 hp hle hl hv hdd => exact h0
 | flat L nx h0 h1 hle hkk hv => exact h0
theorem dis_snoc {L : List TSlot} (h : Dis L) {k : TKey} (hno : ∀ e ∈ lv L, e.fKey ≠ k) {s : TSlot} (hs : s.fKey = k) : Dis (L ++ [s]) := by
 unfold Dis at *
 rw [List.pairwise_append]
 refine ⟨h, List.pairwise_singleton _ _, fun a ha b hb h1 h2 => ?_⟩
 obtain rfl := List.mem_singleton.1 hb
 rw [hs]
 exact hno (slE a) (lv_mem.2 ⟨a, ha, h1, rfl⟩)
def nxt (nx : Int) (k : TKey) : Int := if k.fText = true then nx else if W64 (k.fNum + 1) > nx then W64 (k.fNum + 1) else nx
theorem nxt_bd {nx : Int} (h0 : 0 ≤ nx ∧ nx ≤ 1000000001) {k : TKey} (hk : vk k = true) : nx ≤ nxt nx k ∧ nxt nx k ≤ 1000000001 ∧ (k.fText = true ∨ k.fNum < nxt nx k) := by
 unfold nxt
 by_cases ht : k.fText = true
 ·rw [if_pos ht]; exact ⟨Int.le_refl _, h0.2, .inl ht⟩
 ·rw [if_neg ht]
  obtain ⟨q1, q2⟩ := vk_int hk ht
  have e : W64 (k.fNum + 1) = k.fNum + 1 := by rw [W64, w64 (by omega) (by omega)]
  rw [e]
  split <;> exact ⟨by omega, by omega, .inr (by omega)⟩
theorem kv_le {nx nx' : Int} (h : nx ≤ nx') {s : TSlot} (q : KV nx s) : KV nx' s := ⟨q.1, q.2.1.imp_right fun a => by omega, q.2.2⟩
structure Put (t : TTable) (k : TKey) (v : TValue) (x : TTable) : Prop where
 vt : VT x
 nx : x.fNext = nxt t.fNext k
 lv : Go.Am.lv x.fSlots = Go.Am.lv t.fSlots ++ [TEntry.mk k v]
 ln : x.fSlots.length ≤ t.fSlots.length + 1
theorem fin2 {n : Nat} (hp : Pw n) {L : List TSlot} {nx : Int} (h0 : 0 ≤ nx ∧ nx ≤ 1000000001) (hle : L.length < n) (hl : Lk n L) (hv : ∀ s ∈ L, KV nx s) (hd : Dis L) {k : TKey} (hk : vk k = true) (v : TValue) (hno : ∀ e ∈ lv L, e.fKey ≠ k) :
  ∃ x, (m_i_addSlot (TTable.mk true (hds n L) L nx ((lv L).length : Int)) k v >>= fun v33 =>
   (if k.fText = true then some v33 else m93 v33.fNext (W64 (k.fNum + 1)) >>= fun v38 => some (TTable.mk v33.fHashed v33.fHeads v33.fSlots v38 v33.fCount))) = some x ∧
   VT x ∧ x.fNext = nxt nx k ∧ lv x.fSlots = lv L ++ [TEntry.mk k v] ∧ x.fSlots.length = L.length + 1 := by
 obtain ⟨b1, b2⟩ := hp.bd
 have hc := lv_len L
 rw [addH (by omega) b2 (by omega) (vk_kb hk) v nx (lv L).length (by omega), sb]
 have e1 : lv (L ++ [nsl n L k v]) = lv L ++ [TEntry.mk k v] := by rw [lv_app, lv_one, if_pos (by rfl)]; rfl
 have vt : VT (TTable.mk true (hds n (L ++ [nsl n L k v])) (L ++ [nsl n L k v]) (nxt nx k) (((lv L).length + 1 : Nat) : Int)) := by
  obtain ⟨n1, n2, n3⟩ := nxt_bd h0 hk
  refine VT.hashed ⟨by omega, n2⟩ hp (by simp; omega) (hl.snoc rfl) (fun s hs => ?_) (dis_snoc hd hno rfl) (by rw [e1]; simp)
  rcases List.mem_append.1 hs with q | q
  ·exact kv_le n1 (hv s q)
  ·obtain rfl := List.mem_singleton.1 q
   exact ⟨hk, n3, .inl rfl⟩
 by_cases ht : k.fText = true
 ·rw [if_pos ht]
  have : nxt nx k = nx := by unfold nxt; rw [if_pos ht]
  rw [this] at vt
  exact ⟨_, rfl, vt, this.symm, e1, by simp⟩
 ·rw [if_neg ht, m93_eq, sb]
  have : nxt nx k = if W64 (k.fNum + 1) > nx then W64 (k.fNum + 1) else nx := by unfold nxt; rw [if_neg ht]
  rw [this] at vt
  exact ⟨_, rfl, vt, this.symm, e1, by simp⟩
theorem bsl_kv {n : Nat} {L : List TSlot} {nx : Int} (hv : ∀ s ∈ L, KV nx s) : ∀ s ∈ bsl n (lv L), KV nx s := fun s hs => by
 obtain ⟨h1, h2⟩ := (bsl_all (n := n) (lv L)).2.2.2 s hs
 obtain ⟨u, hu, _, e⟩ := lv_mem.1 h2
 have ek : u.fKey = s.fKey := by
  have := congrArg TEntry.fKey e
  exact this
 obtain ⟨q1, q2, _⟩ := hv u hu
 rw [ek] at q1 q2
 exact ⟨q1, q2, .inl h1⟩
theorem bsl_dis {n : Nat} {L : List TSlot} (h : Dis L) : Dis (bsl n (lv L)) := Dis.of (by rw [(bsl_all (n := n) (lv L)).2.1]; exact h.nodup)
theorem put2 {t : TTable} (ht : VC t) (hl : t.fSlots.length ≤ 900) {k : TKey} (hk : vk k = true) (v : TValue) (hno : ∀ e ∈ lv t.fSlots, e.fKey ≠ k) (hla : lastAt t.fSlots k t.fSlots.length = -1) :
  ∃ x, m_i_putSlot t k v = some x ∧ Put t k v x := by
 have hkb := vk_kb hk
 have hc := lv_len t.fSlots
 have hd := ht.dis
 have hkv := ht.kv
 have h0 := ht.nx
 have hct := ht.ct
 unfold m_i_putSlot
 rw [slotOf_eq ht (by omega) hkb, hla, sb, if_neg (by omega)]
 have after : ∀ n (hp : Pw n) (hlt : (lv t.fSlots).length < n), ∃ x, (m_i_addSlot (TTable.mk true (hds n (bsl n (lv t.fSlots))) (bsl n (lv t.fSlots)) t.fNext ((lv t.fSlots).length : Int)) k v >>= fun v33 =>
   (if k.fText = true then some v33 else m93 v33.fNext (W64 (k.fNum + 1)) >>= fun v38 => some (TTable.mk v33.fHashed v33.fHeads v33.fSlots v38 v33.fCount))) = some x ∧ Put t k v x := fun n hp hlt => by
  obtain ⟨f1, f2, f3, f4⟩ := bsl_all (n := n) (lv t.fSlots)
  have := fin2 hp h0 (by rw [f3]; exact hlt) f1 (bsl_kv hkv) (bsl_dis hd) hk v (by rw [f2]; exact hno)
  rw [f2] at this
  obtain ⟨x, e, q1, q2, q3, q4⟩ := this
  exact ⟨x, e, q1, q2, q3, by rw [q4, f3]; omega⟩
 cases ht with
 | hashed n L nx _ hp hle hlk hv _ =>
  dsimp only at *
  simp only [if_true, sb, hds_len]
  by_cases hfull : L.length = n
  ·obtain ⟨n', hp', hlt', er⟩ := rebuilt2 (TTable.mk true (hds n L) L nx ((lv L).length : Int)) hl (fun s hs => vk_kb (hkv s hs).1) rfl
   rw [if_pos (by omega), er, sb, sb]
   exact after n' hp' hlt'
  ·rw [if_neg (by omega), sb]
   obtain ⟨x, e, q1, q2, q3, q4⟩ := fin2 hp h0 (show L.length < n by omega) hlk hkv hd hk v hno
   exact ⟨x, e, q1, q2, q3, by rw [q4]; exact Nat.le_refl _⟩
 | flat L nx _ h1 hle hkk hv =>
  dsimp only at *
  simp only [if_neg Bool.false_ne_true]
  by_cases he : k = TKey.mk false (L.length : Int) []
  ·have e3 : m_i_addSlot (TTable.mk false [] L nx ((lv L).length : Int)) k v = some (TTable.mk false [] (L ++ [TSlot.mk k v true (-1)]) nx (((lv L).length + 1 : Nat) : Int)) := by
    unfold m_i_addSlot
    simp only [if_neg Bool.false_ne_true, sb]
    rw [lapp_eq (by simp; omega), sb, w_succ (by omega)]
   have ht : ¬ k.fText = true := by rw [he]; simp
   rw [if_pos he, if_neg (by omega), sb]
   simp only [if_neg Bool.false_ne_true, sb]
   rw [e3, sb, if_neg ht, m93_eq, sb]
   obtain ⟨n1, n2, n3⟩ := nxt_bd h0 hk
   have en : nxt nx k = if W64 (k.fNum + 1) > nx then W64 (k.fNum + 1) else nx := by unfold nxt; rw [if_neg ht]
   have e1 : lv (L ++ [TSlot.mk k v true (-1)]) = lv L ++ [TEntry.mk k v] := by rw [lv_app, lv_one, if_pos (by rfl)]; rfl
   refine ⟨_, rfl, ?_, en.symm, e1, by simp⟩
   dsimp only
   rw [← en]
   have n4 : (L.length : Int) < nxt nx k := by
    have := n3.resolve_left ht
    rw [he] at this
    rw [he]
    exact this
   refine VT.flat ⟨by omega, n2⟩ (by simp; omega) (by simp; omega) (fun i hi => ?_) (fun s hs => ?_) (by rw [e1]; simp)
   ·by_cases q : i < L.length
    ·rw [List.getElem_append_left q]; exact hkk i q
    ·have : i = L.length := by simp at hi; omega
     subst this
     simp [he]
   ·rcases List.mem_append.1 hs with q | q
    ·exact kv_le n1 (hkv s q)
    ·obtain rfl := List.mem_singleton.1 q
     exact ⟨hk, n3, .inl rfl⟩
  ·obtain ⟨n', hp', hlt', er⟩ := rebuilt2 (TTable.mk false [] L nx ((lv L).length : Int)) hl (fun s hs => vk_kb (hkv s hs).1) rfl
   have f3 := (bsl_all (n := n') (lv L)).2.2.1
   rw [if_neg he, er, sb, sb]
   simp only [if_true, hds_len]
   rw [if_neg (by dsimp only at hlt'; omega), sb]
   exact after n' hp' hlt'
end Go.Am
