/- The plain law: valid tables, their slots found, added, rebuilt. -/
import Derived.Test.YtgkniabpdgaoiaaGreatDoorT3
set_option linter.unusedVariables false
set_option linter.unusedSimpArgs false
namespace Go.Am
open Go Go.RowKit Go.Proofs
def Lk (n : Nat) (L : List TSlot) : Prop := ∀ i (h : i < L.length), L[i].fLink = lnk n L i
def KV (nx : Int) (s : TSlot) : Prop := vk s.fKey = true ∧ (s.fKey.fText = true ∨ s.fKey.fNum < nx) ∧ (s.fLive = true ∨ zv s.fVal = true)
def Dis (L : List TSlot) : Prop := L.Pairwise fun a b => a.fLive = true → b.fLive = true → a.fKey ≠ b.fKey
theorem Dis.nodup {L : List TSlot} (h : Dis L) : ((lv L).map (·.fKey)).Nodup := by
 unfold lv
 rw [List.map_map]
 unfold List.Nodup
 rw [List.pairwise_map, List.pairwise_filter]
 exact h.imp fun q h1 h2 => q h1 h2
theorem Dis.of {L : List TSlot} (h : ((lv L).map (·.fKey)).Nodup) : Dis L := by
 unfold lv at h
 rw [List.map_map] at h
 unfold List.Nodup at h
 rw [List.pairwise_map, List.pairwise_filter] at h
 exact h.imp fun q h1 h2 => q h1 h2
theorem iK_dis {L : List TSlot} (h : ∀ i (h : i < L.length), L[i].fKey = TKey.mk false (i : Int) []) : Dis L := by
 unfold Dis
 rw [List.pairwise_iff_getElem]
 intro i j hi hj hij _ _ e
 rw [h i hi, h j hj] at e
 injection e with _ e _
 omega
theorem VT.hashed {n : Nat} {L : List TSlot} {nx : Int} {c : Int} (h0 : 0 ≤ nx ∧ nx ≤ 1000000001) (hp : Pw n) (hl : L.length ≤ n) (hk : Lk n L) (hv : ∀ s ∈ L, KV nx s) (hd : Dis L) (hc : c = ((lv L).length : Int)) : VT (TTable.mk true (hds n L) L nx c) := by
 have := hp.bd
 refine ⟨h0, by show L.length ≤ 1024; omega, ?_, ?_, ?_, hc⟩
 ·unfold H1
  rw [if_pos rfl]
  dsimp only
  rw [hds_len]; exact ⟨hp, hl⟩
 ·intro i _ hi
  have hi' : i < L.length := hi
  obtain ⟨q1, q2, q3⟩ := hv _ (List.getElem_mem hi')
  refine ⟨⟨q1, q2, q3, ?_⟩, ?_⟩
  ·rw [if_pos rfl]
   dsimp only
   rw [hds_len]; exact hk i hi'
  ·intro _ h2 m _ hm hml h3
   exact List.pairwise_iff_getElem.1 hd m i hml hi' hm h3 h2
 ·dsimp only; rw [hds_len]
theorem VT.flat {L : List TSlot} {nx : Int} {c : Int} (h0 : 0 ≤ nx ∧ nx ≤ 1000000001) (h1 : L.length ≤ 1024) (hl : (L.length : Int) ≤ nx) (hk : ∀ i (h : i < L.length), L[i].fKey = TKey.mk false (i : Int) [] ∧ L[i].fLink = -1) (hv : ∀ s ∈ L, KV nx s) (hc : c = ((lv L).length : Int)) : VT (TTable.mk false [] L nx c) := by
 refine ⟨h0, h1, ?_, ?_, ?_, hc⟩
 ·unfold H1; rw [if_neg (by simp)]; exact ⟨rfl, hl⟩
 ·intro i _ hi
  have hi' : i < L.length := hi
  obtain ⟨q1, q2, q3⟩ := hv _ (List.getElem_mem hi')
  exact ⟨⟨q1, q2, q3, by rw [if_neg (by simp)]; exact hk i hi'⟩, fun q => by cases q⟩
 ·exact (List.eq_nil_of_length_eq_zero (by rw [hds_len]; rfl)).symm
inductive VC : TTable → Prop
 | hashed (n : Nat) (L : List TSlot) (nx : Int) (h0 : 0 ≤ nx ∧ nx ≤ 1000000001) (hp : Pw n) (hl : L.length ≤ n) (hk : Lk n L) (hv : ∀ s ∈ L, KV nx s) (hd : Dis L) : VC (TTable.mk true (hds n L) L nx ((lv L).length : Int))
 | flat (L : List TSlot) (nx : Int) (h0 : 0 ≤ nx ∧ nx ≤ 1000000001) (h1 : L.length ≤ 1024) (hl : (L.length : Int) ≤ nx) (hk : ∀ i (h : i < L.length), L[i].fKey = TKey.mk false (i : Int) [] ∧ L[i].fLink = -1) (hv : ∀ s ∈ L, KV nx s) : VC (TTable.mk false [] L nx ((lv L).length : Int))
theorem VT.vc {t : TTable} (h : VT t) : VC t := by
 obtain ⟨h0, h1, h2, h3, h4, h5⟩ := h
 obtain ⟨b, H, L, nx, c⟩ := t
 dsimp only at *
 subst h5
 have hv : ∀ s ∈ L, KV nx s := fun s hs => by
  obtain ⟨i, hi, rfl⟩ := List.mem_iff_getElem.1 hs
  obtain ⟨⟨q1, q2, q3, _⟩, _⟩ := h3 i (Nat.zero_le _) hi
  exact ⟨q1, q2, q3⟩
 cases b
 ·unfold H1 at h2
  rw [if_neg (by simp)] at h2
  dsimp only at h2
  obtain rfl := List.eq_nil_of_length_eq_zero h2.1
  refine VC.flat L nx h0 h1 h2.2 (fun i hi => ?_) hv
  obtain ⟨⟨_, _, _, q⟩, _⟩ := h3 i (Nat.zero_le _) hi
  rw [if_neg (by simp)] at q
  exact q
 ·unfold H1 at h2
  rw [if_pos rfl] at h2
  dsimp only at h2
  generalize hn : H.length = n at *
  subst h4
  refine VC.hashed n L nx h0 h2.1 h2.2 (fun i hi => ?_) hv ?_
  ·obtain ⟨⟨_, _, _, q⟩, _⟩ := h3 i (Nat.zero_le _) hi
   rw [if_pos rfl] at q
   dsimp only at q
   rw [hds_len] at q
   exact q
  ·unfold Dis
   rw [List.pairwise_iff_getElem]
   intro i j hi hj hij l1 l2
   obtain ⟨_, q⟩ := h3 j (Nat.zero_le _) hj
   exact q rfl l2 i (Nat.zero_le _) hij hi l1
theorem lastAt_bd (L : List TSlot) (k : TKey) : ∀ m, -1 ≤ lastAt L k m ∧ lastAt L k m < (m : Int)
 | 0 => by unfold lastAt; omega
 | m + 1 => by
  have := lastAt_bd L k m
  unfold lastAt
  split <;> omega
theorem lastAt_yes {L : List TSlot} {k : TKey} {m : Nat} (h : m < L.length) (h1 : L[m].fLive = true) (h2 : L[m].fKey = k) : lastAt L k (m + 1) = (m : Int) := if_pos ⟨h, h1, h2⟩
theorem lastAt_no {L : List TSlot} {k : TKey} {m : Nat} (h : m < L.length) (hn : ¬ (L[m].fLive = true ∧ L[m].fKey = k)) : lastAt L k (m + 1) = lastAt L k m := if_neg fun ⟨_, q⟩ => hn q
theorem lastAt_spec (L : List TSlot) (k : TKey) : ∀ m, m ≤ L.length → (lastAt L k m = -1 ∧ ∀ i (h : i < L.length), i < m → L[i].fLive = true → L[i].fKey ≠ k) ∨ ∃ j, ∃ h : j < L.length, lastAt L k m = (j : Int) ∧ L[j].fLive = true ∧ L[j].fKey = k
 | 0, _ => .inl ⟨rfl, fun i h hi => by omega⟩
 | m + 1, hm => by
  unfold lastAt
  by_cases q : ∃ h : m < L.length, L[m].fLive = true ∧ L[m].fKey = k
  ·rw [if_pos q]
   obtain ⟨h, q1, q2⟩ := q
   exact .inr ⟨m, h, rfl, q1, q2⟩
  ·rw [if_neg q]
   rcases lastAt_spec L k m (by omega) with ⟨e, h⟩ | h
   ·refine .inl ⟨e, fun i hi hm2 q1 q2 => ?_⟩
    by_cases e : i = m
    ·subst e; exact q ⟨hi, q1, q2⟩
    ·exact h i hi (by omega) q1 q2
   ·exact .inr h
theorem chain_eq {n : Nat} (hn : 0 < n) {L : List TSlot} (hl : L.length ≤ 2000) (hk : Lk n L) (k : TKey) (a : TTable) (ha : a.fSlots = L) : ∀ m, m ≤ L.length →
  m_i_slotOf_L2 a k ((hds n (L.take m)).getD (bk' n k) 0) = some (if lastAt L k m < 0 then .inl () else .inr (lastAt L k m))
 | 0, _ => by
  have e : (hds n (L.take 0)).getD (bk' n k) 0 = -1 := by
   rw [List.take_zero, hds_nil, List.getD_eq_getElem?_getD, List.getElem?_replicate, if_pos (bk_lt hn k)]; rfl
  rw [e, m_i_slotOf_L2, if_neg (by omega)]
  rfl
 | m + 1, hm => by
  have hml : m < L.length := by omega
  have ih := chain_eq hn hl hk k a ha m (by omega)
  by_cases e : bk' n L[m].fKey = bk' n k
  ·have e1 : (hds n (L.take (m + 1))).getD (bk' n k) 0 = (m : Int) := by
    rw [hds_take hml, List.getD_eq_getElem?_getD, List.getElem?_set, if_pos e, if_pos (by rw [hds_len]; exact bk_lt hn _)]; rfl
   have e2 : L[m].fLink = (hds n (L.take m)).getD (bk' n k) 0 := by rw [hk m hml, lnk_eq hml, e]
   rw [e1, m_i_slotOf_L2, if_pos (by omega), ha, idx_nat hml, sb]
   by_cases q1 : L[m].fLive = true
   ·rw [if_pos q1, sb]
    by_cases q2 : L[m].fKey = k
    ·rw [if_pos q2, lastAt_yes hml q1 q2, if_neg (by omega)]
    ·rw [if_neg q2, sb, e2, ih, lastAt_no hml (fun q => q2 q.2)]
   ·rw [if_neg q1, sb, e2, ih, lastAt_no hml (fun q => q1 q.1)]
  ·have e1 : (hds n (L.take (m + 1))).getD (bk' n k) 0 = (hds n (L.take m)).getD (bk' n k) 0 := by
    rw [hds_take hml, List.getD_eq_getElem?_getD, List.getElem?_set, if_neg e, ← List.getD_eq_getElem?_getD]
   rw [e1, ih, lastAt_no hml (fun q => e (by rw [q.2]))]
theorem slotOf_eq {t : TTable} (h : VC t) (hl : t.fSlots.length ≤ 1024) {k : TKey} (hk : KB k) : m_i_slotOf t k = some (lastAt t.fSlots k t.fSlots.length) := by
 cases h with
 | hashed n L nx h0 hp hle hlk hv hd =>
  obtain ⟨b1, b2⟩ := hp.bd
  obtain ⟨_, e1, _, _⟩ := kh_eq hk
  obtain ⟨e2, _⟩ := bk_mod (show 0 < n by omega) b2 hk
  have e4 := chain_eq (show 0 < n by omega) (by dsimp only at hl; omega) hlk k (TTable.mk true (hds n L) L nx ((lv L).length : Int)) rfl L.length (Nat.le_refl _)
  rw [List.take_length] at e4
  unfold m_i_slotOf
  simp only [if_true, e1, hds_len, e2, sb, hd_idx (bk_lt (show 0 < n by omega) k), e4]
  have := lastAt_bd L k L.length
  by_cases q : lastAt L k L.length < 0
  ·rw [if_pos q]; dsimp only; congr 1; omega
  ·rw [if_neg q]
 | flat L nx h0 h1 hle hkk hv =>
  have hsp := lastAt_spec L k L.length (Nat.le_refl _)
  unfold m_i_slotOf
  simp only [if_neg Bool.false_ne_true]
  have none : (∀ i (h : i < L.length), L[i].fLive = true → L[i].fKey ≠ k) → lastAt L k L.length = -1 := fun q => by
   rcases hsp with ⟨e, _⟩ | ⟨j, hj, _, q1, q2⟩
   ·exact e
   ·exact absurd q2 (q j hj q1)
  by_cases q1 : k.fText = true
  ·rw [if_pos q1, none (fun i hi _ e => by rw [← e, (hkk i hi).1] at q1; cases q1)]
  rw [if_neg q1]
  by_cases q2 : k.fStr = ([] : Str)
  case neg => rw [if_neg q2, none (fun i hi _ e => by rw [← e, (hkk i hi).1] at q2; exact q2 rfl)]
  rw [if_pos q2]
  by_cases q3 : k.fNum < 0
  ·rw [if_pos q3, none (fun i hi _ e => by rw [← e, (hkk i hi).1] at q3; dsimp only at q3; omega)]
  rw [if_neg q3]
  by_cases q4 : k.fNum ≥ (L.length : Int)
  ·rw [if_pos q4, none (fun i hi _ e => by rw [← e, (hkk i hi).1] at q4; dsimp only at q4; omega)]
  rw [if_neg q4]
  obtain ⟨j, hj⟩ : ∃ j : Nat, k.fNum = (j : Int) := ⟨k.fNum.toNat, by omega⟩
  have hjl : j < L.length := by omega
  have ek : L[j].fKey = k := by
   rw [(hkk j hjl).1]
   obtain ⟨a, b, c⟩ := k
   simp at q1 q2 hj
   subst q1 q2 hj
   rfl
  rw [hj, idx_nat hjl, sb]
  by_cases q5 : L[j].fLive = true
  ·rw [if_pos q5]
   rcases hsp with ⟨_, q⟩ | ⟨i, hi, e, _, q⟩
   ·exact absurd ek (q j hjl hjl q5)
   ·rw [e]
    rw [← ek, (hkk i hi).1, (hkk j hjl).1] at q
    injection q with _ q _
    rw [q]
  ·rw [if_neg q5, none (fun i hi hli e => by
    rw [← ek, (hkk i hi).1, (hkk j hjl).1] at e
    injection e with _ e _
    have : i = j := by omega
    subst this
    exact q5 hli)]
theorem Lk.snoc {n : Nat} {L : List TSlot} {s : TSlot} (h : Lk n L) (hs : s.fLink = (hds n L).getD (bk' n s.fKey) 0) : Lk n (L ++ [s]) := by
 intro i hi
 rw [lnk_eq hi]
 by_cases q : i < L.length
 ·have e : (L ++ [s]).take i = L.take i := List.take_append_of_le_length (by omega)
  have e2 : (L ++ [s])[i] = L[i] := List.getElem_append_left q
  rw [e, e2, h i q, lnk_eq q]
 ·have : i = L.length := by simp at hi; omega
  subst this
  have e2 : (L ++ [s])[L.length] = s := by simp
  have e : (L ++ [s]).take L.length = L := List.take_left' rfl
  rw [e2, e, hs]
def nsl (n : Nat) (L : List TSlot) (k : TKey) (v : TValue) : TSlot := TSlot.mk k v true ((hds n L).getD (bk' n k) 0)
theorem addH {n : Nat} (hn : 0 < n) (h1 : n ≤ 1024) {L : List TSlot} (hl : L.length ≤ 2000) {k : TKey} (hk : KB k) (v : TValue) (nx : Int) (c : Nat) (hc : c ≤ 2000) :
  m_i_addSlot (TTable.mk true (hds n L) L nx (c : Int)) k v = some (TTable.mk true (hds n (L ++ [nsl n L k v])) (L ++ [nsl n L k v]) nx ((c + 1 : Nat) : Int)) := by
 obtain ⟨_, e1, _, _⟩ := kh_eq hk
 obtain ⟨e2, _⟩ := bk_mod hn h1 hk
 have hb := bk_lt hn k
 unfold m_i_addSlot
 simp only [if_true, hds_len, e1, e2, hd_idx hb, sb, Int.toNat_natCast, w_succ (show c < 9223372036854775807 by omega)]
 rw [lapp_eq (by simp; omega), sb, hds_snoc]
 rfl
def bsl (n : Nat) (l : List TEntry) : List TSlot := l.foldl (fun L e => L ++ [nsl n L e.fKey e.fVal]) []
theorem bsl_snoc (n : Nat) (l : List TEntry) (e : TEntry) : bsl n (l ++ [e]) = bsl n l ++ [nsl n (bsl n l) e.fKey e.fVal] := by unfold bsl; rw [List.foldl_append]; rfl
theorem bsl_facts {n : Nat} (l : List TEntry) : ∀ m, m ≤ l.length → Lk n (bsl n (l.take m)) ∧ lv (bsl n (l.take m)) = l.take m ∧ (bsl n (l.take m)).length = m ∧ ∀ s ∈ bsl n (l.take m), s.fLive = true ∧ slE s ∈ l
 | 0, _ => ⟨fun i hi => by simp [bsl] at hi, rfl, rfl, fun s hs => by simp [bsl] at hs⟩
 | m + 1, hm => by
  obtain ⟨h1, h2, h3, h4⟩ := bsl_facts (n := n) l m (by omega)
  have e : l.take (m + 1) = l.take m ++ [l[m]] := (List.take_append_getElem (by omega)).symm
  have e4 : TEntry.mk l[m].fKey l[m].fVal = l[m] := by cases l[m]; rfl
  rw [e, bsl_snoc]
  refine ⟨h1.snoc rfl, ?_, by simp [h3], fun s hs => ?_⟩
  ·rw [lv_app, h2, lv_one, if_pos (show (nsl n (bsl n (l.take m)) l[m].fKey l[m].fVal).fLive = true from rfl)]
   show _ ++ [TEntry.mk l[m].fKey l[m].fVal] = _
   rw [e4]
  ·rcases List.mem_append.1 hs with hs | hs
   ·exact h4 s hs
   ·obtain rfl := List.mem_singleton.1 hs
    refine ⟨rfl, ?_⟩
    show TEntry.mk l[m].fKey l[m].fVal ∈ l
    rw [e4]; exact List.getElem_mem _
theorem bsl_all {n : Nat} (l : List TEntry) : Lk n (bsl n l) ∧ lv (bsl n l) = l ∧ (bsl n l).length = l.length ∧ ∀ s ∈ bsl n l, s.fLive = true ∧ slE s ∈ l := by
 have := bsl_facts (n := n) l l.length (Nat.le_refl _)
 rwa [List.take_length] at this
theorem build2 {n : Nat} (hn : 0 < n) (h1 : n ≤ 1024) (a : TTable) (hl : a.fSlots.length ≤ 1024) (hv : ∀ s ∈ a.fSlots, KB s.fKey) (nx : Int) : ∀ (f i : Nat), a.fSlots.length ≤ i + f → i ≤ a.fSlots.length →
  m_i_rebuilt_L4 a true nx ((lv (a.fSlots.take i)).length : Int) (hds n (bsl n (lv (a.fSlots.take i)))) (bsl n (lv (a.fSlots.take i))) (i : Int) = some (true, nx, ((lv a.fSlots).length : Int), hds n (bsl n (lv a.fSlots)), bsl n (lv a.fSlots))
 | f, i, hf, hi => by
  rw [m_i_rebuilt_L4]
  by_cases hc : i < a.fSlots.length
  ·obtain ⟨g, rfl⟩ : ∃ g, f = g + 1 := ⟨f - 1, by omega⟩
   have ih := build2 hn h1 a hl hv nx g (i + 1) (by omega) (by omega)
   have hlv : (lv (a.fSlots.take i)).length ≤ i := by have := lv_len (a.fSlots.take i); simp at this; omega
   rw [if_pos (by omega), idx_nat hc, sb, w_succ (by omega)]
   rw [lv_take hc] at ih
   by_cases q : a.fSlots[i].fLive = true
   ·rw [if_pos q] at ih ⊢
    have e2 := addH hn h1 (L := bsl n (lv (a.fSlots.take i))) (by rw [(bsl_all _).2.2.1]; omega) (hv _ (List.getElem_mem hc)) a.fSlots[i].fVal nx (lv (a.fSlots.take i)).length (by omega)
    rw [e2, sb]
    rw [bsl_snoc] at ih
    rw [List.length_append, List.length_cons, List.length_nil] at ih
    exact ih
   ·rw [if_neg q] at ih ⊢
    rw [List.append_nil] at ih
    exact ih
  ·have : i = a.fSlots.length := by omega
   subst this
   rw [if_neg (by omega), List.take_length]
theorem rebuilt2 (a : TTable) (hl : a.fSlots.length ≤ 900) (hv : ∀ s ∈ a.fSlots, KB s.fKey) (hc : a.fCount = ((lv a.fSlots).length : Int)) :
  ∃ n, Pw n ∧ (lv a.fSlots).length < n ∧ m_i_rebuilt a = some (TTable.mk true (hds n (bsl n (lv a.fSlots))) (bsl n (lv a.fSlots)) a.fNext ((lv a.fSlots).length : Int)) := by
 have := lv_len a.fSlots
 obtain ⟨n, e, hp, hlt⟩ := size_eq a (lv a.fSlots).length hc (by omega)
 obtain ⟨b1, b2⟩ := hp.bd
 refine ⟨n, hp, hlt, ?_⟩
 have e2 := build2 (n := n) (by omega) b2 a (by omega) hv a.fNext a.fSlots.length 0 (by omega) (by omega)
 unfold m_i_rebuilt
 rw [e, sb, noHeads_eq n (by omega), sb, sb]
 have e3 : m_i_rebuilt_L4 a true a.fNext 0 (List.replicate n (-1)) [] 0 = some (true, a.fNext, ((lv a.fSlots).length : Int), hds n (bsl n (lv a.fSlots)), bsl n (lv a.fSlots)) := e2
 rw [e3, sb]
end Go.Am
