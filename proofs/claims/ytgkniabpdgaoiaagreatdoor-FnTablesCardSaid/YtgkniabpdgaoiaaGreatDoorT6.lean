/- The plain law: the program's own check lets the same tables pass. -/
import Derived.Test.YtgkniabpdgaoiaaGreatDoorT5
import Derived.Test.YtgkniabpdgaoiaaGreatDoorK4
set_option linter.unusedVariables false
set_option linter.unusedSimpArgs false
namespace Go.Am
open Go Go.RowKit Go.Proofs
theorem zero_eq' (v : TValue) : m_i_isZeroValue v = some (zv v) := zero_eq v
theorem mput_len {κ β : Type} [DecidableEq κ] : ∀ (l : List (κ × β)) (k : κ) (v : β), mfind l k = none → (mput l k v).length = l.length + 1
 | [], k, v, _ => rfl
 | (a, b) :: r, k, v, h => by
  unfold mfind at h
  unfold mput
  by_cases e : k = a
  ·rw [if_pos e] at h; cases h
  ·rw [if_neg e] at h ⊢
   simp [mput_len r k v h]
def Ci (t : TTable) (k : Nat) : Prop := ∀ i, k ≤ i → ∀ h : i < t.fSlots.length, KV t.fNext t.fSlots[i] ∧ (t.fSlots[i].fLive = true → ∀ e ∈ lv (t.fSlots.take i), e.fKey ≠ t.fSlots[i].fKey)
theorem Ci.step {t : TTable} {k : Nat} (h : k < t.fSlots.length) : Ci t k ↔ (KV t.fNext t.fSlots[k] ∧ (t.fSlots[k].fLive = true → ∀ e ∈ lv (t.fSlots.take k), e.fKey ≠ t.fSlots[k].fKey)) ∧ Ci t (k + 1) := by
 constructor
 ·exact fun q => ⟨q k (Nat.le_refl _) h, fun i hi hl => q i (by omega) hl⟩
 ·rintro ⟨q1, q2⟩ i hi hl
  by_cases e : i = k
  ·subst e; exact q1
  ·exact q2 i (by omega) hl
def Mp (l : List (TKey × Bool)) (L : List TEntry) : Prop := (∀ k, mfind l k = if ∃ e ∈ L, e.fKey = k then some true else none) ∧ l.length = L.length
theorem loop1 (a : TTable) (hl : a.fSlots.length ≤ 2000) : ∀ (f i : Nat) (l : List (TKey × Bool)), a.fSlots.length ≤ i + f → i ≤ a.fSlots.length → Mp l (lv (a.fSlots.take i)) →
  (Ci a i → ∃ l', m_i_IsTable_L2 a l (i : Int) = some (.inl l') ∧ l'.length = (lv a.fSlots).length) ∧ (¬ Ci a i → m_i_IsTable_L2 a l (i : Int) = some (.inr false))
 | f, i, l, hf, hi, hm => by
  rw [m_i_IsTable_L2]
  by_cases hc : i < a.fSlots.length
  ·obtain ⟨g, rfl⟩ : ∃ g, f = g + 1 := ⟨f - 1, by omega⟩
   rw [Ci.step hc]
   have ih := fun l' h => loop1 a hl g (i + 1) l' (by omega) (by omega) h
   rw [lv_take hc] at ih
   rw [if_pos (by omega), idx_nat hc, sb]
   generalize hs : a.fSlots[i] = s at ih ⊢
   rw [m55_eq, sb, zero_eq', w_succ (by omega)]
   by_cases c1 : vk s.fKey = true
   case neg => rw [if_neg c1]; exact ⟨fun h => absurd h.1.1.1 c1, fun _ => rfl⟩
   rw [if_pos c1]
   have bad : ∀ x : Option ((List (TKey × Bool)) ⊕ Bool), x = some (.inr false) → ¬ (KV a.fNext s ∧ (s.fLive = true → ∀ e ∈ lv (a.fSlots.take i), e.fKey ≠ s.fKey)) → ((KV a.fNext s ∧ (s.fLive = true → ∀ e ∈ lv (a.fSlots.take i), e.fKey ≠ s.fKey)) ∧ Ci a (i + 1) → ∃ l', x = some (.inl l') ∧ l'.length = (lv a.fSlots).length) ∧ (¬ ((KV a.fNext s ∧ (s.fLive = true → ∀ e ∈ lv (a.fSlots.take i), e.fKey ≠ s.fKey)) ∧ Ci a (i + 1)) → x = some (.inr false)) :=
    fun x hx hn => ⟨fun h => absurd h.1 hn, fun _ => hx⟩
   have good : ∀ x : Option ((List (TKey × Bool)) ⊕ Bool), (KV a.fNext s ∧ (s.fLive = true → ∀ e ∈ lv (a.fSlots.take i), e.fKey ≠ s.fKey)) → ((Ci a (i + 1) → ∃ l', x = some (.inl l') ∧ l'.length = (lv a.fSlots).length) ∧ (¬ Ci a (i + 1) → x = some (.inr false))) → ((KV a.fNext s ∧ (s.fLive = true → ∀ e ∈ lv (a.fSlots.take i), e.fKey ≠ s.fKey)) ∧ Ci a (i + 1) → ∃ l', x = some (.inl l') ∧ l'.length = (lv a.fSlots).length) ∧ (¬ ((KV a.fNext s ∧ (s.fLive = true → ∀ e ∈ lv (a.fSlots.take i), e.fKey ≠ s.fKey)) ∧ Ci a (i + 1)) → x = some (.inr false)) :=
    fun x hg hx => ⟨fun h => hx.1 h.2, fun h => hx.2 (fun q => h ⟨hg, q⟩)⟩
   have live : ∀ (q : s.fKey.fText = true ∨ s.fKey.fNum < a.fNext), s.fLive = true → ∀ x : Option ((List (TKey × Bool)) ⊕ Bool), x = (if (mgd l s.fKey false) = true then some (.inr false) else m_i_IsTable_L2 a (mput l s.fKey true) ((i + 1 : Nat) : Int)) → ((KV a.fNext s ∧ (s.fLive = true → ∀ e ∈ lv (a.fSlots.take i), e.fKey ≠ s.fKey)) ∧ Ci a (i + 1) → ∃ l', x = some (.inl l') ∧ l'.length = (lv a.fSlots).length) ∧ (¬ ((KV a.fNext s ∧ (s.fLive = true → ∀ e ∈ lv (a.fSlots.take i), e.fKey ≠ s.fKey)) ∧ Ci a (i + 1)) → x = some (.inr false)) := fun q h3 x hx => by
    have e : mgd l s.fKey false = decide (∃ e ∈ lv (a.fSlots.take i), e.fKey = s.fKey) := by
     unfold mgd
     rw [hm.1]
     by_cases h : ∃ e ∈ lv (a.fSlots.take i), e.fKey = s.fKey
     ·rw [if_pos h, decide_eq_true h]; rfl
     ·rw [if_neg h, decide_eq_false h]; rfl
    rw [e] at hx
    by_cases h : ∃ e ∈ lv (a.fSlots.take i), e.fKey = s.fKey
    ·rw [decide_eq_true h, if_pos rfl] at hx
     obtain ⟨e1, he1, he2⟩ := h
     exact bad x hx (fun q => q.2 h3 e1 he1 he2)
    ·rw [decide_eq_false h, if_neg (by simp)] at hx
     refine good x ⟨⟨c1, q, .inl h3⟩, fun _ e he h' => h ⟨e, he, h'⟩⟩ ?_
     rw [hx]
     refine ih _ ?_
     rw [if_pos h3]
     refine ⟨fun k => ?_, ?_⟩
     ·rw [mfind_put, hm.1]
      by_cases ek : k = s.fKey
      ·rw [if_pos ek, if_pos ⟨slE s, by simp, ek.symm⟩]
      ·rw [if_neg ek]
       by_cases h' : ∃ e ∈ lv (a.fSlots.take i), e.fKey = k
       ·obtain ⟨e1, he1, he2⟩ := h'
        rw [if_pos ⟨e1, he1, he2⟩, if_pos ⟨e1, List.mem_append_left _ he1, he2⟩]
       ·rw [if_neg h', if_neg]
        rintro ⟨e1, he1, he2⟩
        rcases List.mem_append.1 he1 with he1 | he1
        ·exact h' ⟨e1, he1, he2⟩
        ·obtain rfl := List.mem_singleton.1 he1
         exact ek he2.symm
     ·rw [mput_len _ _ _ (by rw [hm.1, if_neg h]), hm.2]; simp
   have dead : ∀ (q : s.fKey.fText = true ∨ s.fKey.fNum < a.fNext), ¬ s.fLive = true → ∀ x : Option ((List (TKey × Bool)) ⊕ Bool), x = (some (zv s.fVal) >>= fun v => if v = true then m_i_IsTable_L2 a l ((i + 1 : Nat) : Int) else some (.inr false)) → ((KV a.fNext s ∧ (s.fLive = true → ∀ e ∈ lv (a.fSlots.take i), e.fKey ≠ s.fKey)) ∧ Ci a (i + 1) → ∃ l', x = some (.inl l') ∧ l'.length = (lv a.fSlots).length) ∧ (¬ ((KV a.fNext s ∧ (s.fLive = true → ∀ e ∈ lv (a.fSlots.take i), e.fKey ≠ s.fKey)) ∧ Ci a (i + 1)) → x = some (.inr false)) := fun q h3 x hx => by
    rw [sb] at hx
    by_cases h : zv s.fVal = true
    ·rw [if_pos h] at hx
     refine good x ⟨⟨c1, q, .inr h⟩, fun h' => absurd h' h3⟩ ?_
     rw [hx]
     refine ih _ ?_
     rw [if_neg h3, List.append_nil]
     exact hm
    ·rw [if_neg h] at hx
     exact bad x hx (fun q => by rcases q.1.2.2 with q | q; exact h3 q; exact h q)
   by_cases ht : s.fKey.fText = true
   ·rw [if_pos ht]
    by_cases h3 : s.fLive = true
    ·simp only [if_pos h3]
     exact live (.inl ht) h3 _ rfl
    ·simp only [if_neg h3]
     exact dead (.inl ht) h3 _ rfl
   ·rw [if_neg ht]
    by_cases hn : s.fKey.fNum ≥ a.fNext
    ·rw [if_pos hn]
     exact bad _ rfl (fun q => by rcases q.1.2.1 with q | q; exact ht q; omega)
    ·rw [if_neg hn]
     by_cases h3 : s.fLive = true
     ·simp only [if_pos h3]
      exact live (.inr (by omega)) h3 _ rfl
     ·simp only [if_neg h3]
      exact dead (.inr (by omega)) h3 _ rfl
  ·have : i = a.fSlots.length := by omega
   subst this
   rw [if_neg (by omega)]
   rw [List.take_length] at hm
   exact ⟨fun _ => ⟨l, rfl, hm.2⟩, fun h => absurd (fun i h1 h2 => by omega) h⟩
def Cf (t : TTable) (k : Nat) : Prop := ∀ i, k ≤ i → ∀ h : i < t.fSlots.length, t.fSlots[i].fKey = TKey.mk false (i : Int) [] ∧ t.fSlots[i].fLink = -1
theorem loop2 (a : TTable) (hl : a.fSlots.length ≤ 2000) : ∀ (f i : Nat), a.fSlots.length ≤ i + f → i ≤ a.fSlots.length → (Cf a i → m_i_IsTable_L6 a (i : Int) = some (.inl ())) ∧ (¬ Cf a i → m_i_IsTable_L6 a (i : Int) = some (.inr (.inr false)))
 | f, i, hf, hi => by
  rw [m_i_IsTable_L6]
  by_cases hc : i < a.fSlots.length
  ·obtain ⟨g, rfl⟩ : ∃ g, f = g + 1 := ⟨f - 1, by omega⟩
   have ih := loop2 a hl g (i + 1) (by omega) (by omega)
   rw [if_pos (by omega), idx_nat hc, sb, w_succ (by omega)]
   by_cases c : a.fSlots[i].fKey = TKey.mk false (i : Int) [] ∧ a.fSlots[i].fLink = -1
   ·rw [if_pos c.1, if_pos c.2]
    refine ⟨fun h => ih.1 (fun j hj => h j (by omega)), fun h => ih.2 (fun q => h (fun j hj hjl => ?_))⟩
    by_cases e : j = i
    ·subst e; exact c
    ·exact q j (by omega) hjl
   ·refine ⟨fun h => absurd (h i (Nat.le_refl _) hc) c, fun _ => ?_⟩
    by_cases c1 : a.fSlots[i].fKey = TKey.mk false (i : Int) []
    ·rw [if_pos c1, if_neg (fun q => c ⟨c1, q⟩)]
    ·rw [if_neg c1]
  ·rw [if_neg (by omega)]
   exact ⟨fun _ => rfl, fun h => absurd (fun i h1 h2 => by omega) h⟩
def Ch (t : TTable) (k : Nat) : Prop := ∀ i, k ≤ i → ∀ h : i < t.fSlots.length, t.fSlots[i].fLink = lnk t.fHeads.length t.fSlots i
theorem loop3 (a : TTable) (hl : a.fSlots.length ≤ 2000) (hn : 0 < a.fHeads.length) (hn2 : a.fHeads.length ≤ 1024) (hkb : ∀ s ∈ a.fSlots, KB s.fKey) : ∀ (f i : Nat), a.fSlots.length ≤ i + f → i ≤ a.fSlots.length →
  (Ch a i → m_i_IsTable_L8 a (hds a.fHeads.length (a.fSlots.take i)) (i : Int) = some (.inl (hds a.fHeads.length a.fSlots))) ∧ (¬ Ch a i → m_i_IsTable_L8 a (hds a.fHeads.length (a.fSlots.take i)) (i : Int) = some (.inr false))
 | f, i, hf, hi => by
  rw [m_i_IsTable_L8]
  by_cases hc : i < a.fSlots.length
  ·obtain ⟨g, rfl⟩ : ∃ g, f = g + 1 := ⟨f - 1, by omega⟩
   have ih := loop3 a hl hn hn2 hkb g (i + 1) (by omega) (by omega)
   have kb := hkb _ (List.getElem_mem hc)
   obtain ⟨_, k1, _, _⟩ := kh_eq kb
   obtain ⟨k2, _⟩ := bk_mod hn hn2 kb
   rw [if_pos (by omega), idx_nat hc, sb, w_succ (by omega), k1, sb, k2, sb, hd_idx (bk_lt hn _), sb, Int.toNat_natCast, ← hds_take hc, ← lnk_eq hc]
   by_cases c : a.fSlots[i].fLink = lnk a.fHeads.length a.fSlots i
   ·rw [if_pos c, sb]
    refine ⟨fun h => ih.1 (fun j hj => h j (by omega)), fun h => ih.2 (fun q => h (fun j hj hjl => ?_))⟩
    by_cases e : j = i
    ·subst e; exact c
    ·exact q j (by omega) hjl
   ·rw [if_neg c]
    exact ⟨fun h => absurd (h i (Nat.le_refl _) hc) c, fun _ => rfl⟩
  ·have : i = a.fSlots.length := by omega
   subst this
   rw [if_neg (by omega), List.take_length]
   exact ⟨fun _ => rfl, fun h => absurd (fun i h1 h2 => by omega) h⟩
theorem equal_go (a b : List Int) (hl : a.length = b.length) (hn : a.length ≤ 2000) : ∀ (f i : Nat), a.length ≤ i + f → i ≤ a.length →
  (a.drop i = b.drop i → m_slicesEqualintint_L2 a b (i : Int) = some (.inl ())) ∧ (¬ a.drop i = b.drop i → m_slicesEqualintint_L2 a b (i : Int) = some (.inr false))
 | f, i, hf, hi => by
  rw [m_slicesEqualintint_L2]
  by_cases hc : i < a.length
  ·obtain ⟨g, rfl⟩ : ∃ g, f = g + 1 := ⟨f - 1, by omega⟩
   have ih := equal_go a b hl hn g (i + 1) (by omega) (by omega)
   rw [if_pos (by omega), idx_nat hc, idx_nat (by omega), sb, sb, w_succ (by omega)]
   rw [List.drop_eq_getElem_cons hc, List.drop_eq_getElem_cons (show i < b.length by omega)]
   by_cases e : a[i] = b[i]
   ·rw [if_pos e, e]
    exact ⟨fun h => ih.1 (List.cons.inj h).2, fun h => ih.2 (fun q => h (by rw [q]))⟩
   ·rw [if_neg e]
    exact ⟨fun h => absurd (List.cons.inj h).1 e, fun _ => rfl⟩
  ·rw [if_neg (by omega)]
   exact ⟨fun _ => rfl, fun h => absurd (by rw [List.drop_eq_nil_of_le (by omega), List.drop_eq_nil_of_le (by omega)]) h⟩
theorem equal_eq (a b : List Int) (hl : a.length = b.length) (hn : a.length ≤ 2000) : m_slicesEqualintint a b = some (decide (a = b)) := by
 have := equal_go a b hl hn a.length 0 (by omega) (by omega)
 rw [List.drop_zero, List.drop_zero, show ((0 : Nat) : Int) = 0 from rfl] at this
 unfold m_slicesEqualintint
 rw [if_pos (by omega)]
 by_cases e : a = b
 ·rw [this.1 e, decide_eq_true e]; rfl
 ·rw [this.2 e, decide_eq_false e]; rfl
theorem Ci.kv {t : TTable} (h : Ci t 0) : ∀ s ∈ t.fSlots, KV t.fNext s := fun s hs => by
 obtain ⟨i, hi, rfl⟩ := List.mem_iff_getElem.1 hs
 exact (h i (Nat.zero_le _) hi).1
theorem Ci.dis {t : TTable} (h : Ci t 0) : Dis t.fSlots := by
 unfold Dis
 rw [List.pairwise_iff_getElem]
 intro i j hi hj hij l1 l2
 refine (h j (Nat.zero_le _) hj).2 l2 (slE t.fSlots[i]) (lv_mem.2 ⟨t.fSlots[i], ?_, l1, rfl⟩)
 rw [List.mem_iff_getElem]
 exact ⟨i, by simp; omega, by simp⟩
theorem Ci.of {t : TTable} (h1 : ∀ s ∈ t.fSlots, KV t.fNext s) (h2 : Dis t.fSlots) : Ci t 0 := fun i _ hi => ⟨h1 _ (List.getElem_mem hi), fun hl e he => by
 obtain ⟨s, hs, q1, rfl⟩ := lv_mem.1 he
 obtain ⟨j, hj, rfl⟩ := List.mem_iff_getElem.1 hs
 have hj2 : j < i := by simp at hj; omega
 rw [List.getElem_take] at q1 ⊢
 exact List.pairwise_iff_getElem.1 h2 j i (by omega) hi hj2 q1 hl⟩
theorem iist {t : TTable} (hb : TB t) : (VT t → m_i_IsTable t = some true) ∧ (¬ VT t → m_i_IsTable t = some false) := by
 have hsl := hb.sl
 have hhl := hb.hl
 have pos : ∀ {x : Option Bool}, VT t → x = some true → (VT t → x = some true) ∧ (¬ VT t → x = some false) := fun h hx => ⟨fun _ => hx, fun q => absurd h q⟩
 have neg : ∀ {x : Option Bool}, ¬ VT t → x = some false → (VT t → x = some true) ∧ (¬ VT t → x = some false) := fun h hx => ⟨fun q => absurd q h, fun _ => hx⟩
 have e92 : ∀ a b c : Int, m92 a b c = some (decide (b ≤ a ∧ a ≤ c)) := fun a b c => m53_eq a b c
 have l1 := loop1 t hsl t.fSlots.length 0 [] (by omega) (by omega) ⟨fun k => by rw [List.take_zero, if_neg (by rintro ⟨e, he, _⟩; simp [lv] at he)]; rfl, by simp [lv]⟩
 have l2 := loop2 t hsl t.fSlots.length 0 (by omega) (by omega)
 rw [show ((0 : Nat) : Int) = 0 from rfl] at l1 l2
 unfold m_i_IsTable
 by_cases q1 : 0 ≤ t.fNext ∧ t.fNext ≤ 1000000001
 case neg => rw [e92, sb, decide_eq_false q1]; exact neg (fun h => q1 h.nx) rfl
 rw [e92, sb, decide_eq_true q1, if_pos rfl]
 by_cases q2 : Ci t 0
 case neg => rw [l1.2 q2]; exact neg (fun h => q2 (Ci.of h.vc.kv h.vc.dis)) rfl
 obtain ⟨l', e1, e2⟩ := l1.1 q2
 rw [e1, sb]
 dsimp only
 rw [e2]
 by_cases q3 : t.fCount = ((lv t.fSlots).length : Int)
 case neg => rw [if_neg q3]; exact neg (fun h => q3 h.ct) rfl
 rw [if_pos q3]
 by_cases q4 : t.fHashed = true
 ·rw [if_pos q4, sb]
  dsimp only
  have sz : VT t → Pw t.fHeads.length ∧ t.fSlots.length ≤ t.fHeads.length := fun h => by
   have h := h.sz; unfold H1 at h; rw [if_pos q4] at h; exact h
  by_cases q5 : t.fHeads.length < 8
  ·rw [if_pos (by omega)]; exact neg (fun h => by have := (sz h).1.bd; omega) rfl
  rw [if_neg (by omega)]
  by_cases q6 : t.fHeads.length > 1024
  ·rw [if_pos (by omega)]; exact neg (fun h => by have := (sz h).1.bd; omega) rfl
  rw [if_neg (by omega)]
  by_cases q7 : bits .and .i64 (t.fHeads.length : Int) (W64 ((t.fHeads.length : Int) - 1)) = 0
  case neg => rw [if_neg q7]; exact neg (fun h => q7 (pw_and (sz h).1)) rfl
  rw [if_pos q7]
  have hp : Pw t.fHeads.length := pw_of ⟨t.fHeads.length, by omega⟩ (by show 8 ≤ t.fHeads.length; omega) q7
  by_cases q8 : t.fSlots.length > t.fHeads.length
  ·rw [if_pos (by omega)]; exact neg (fun h => by have := (sz h).2; omega) rfl
  rw [if_neg (by omega), noHeads_eq _ (by omega), sb]
  have l3 := loop3 t hsl (by omega) (by omega) hb.kb t.fSlots.length 0 (by omega) (by omega)
  rw [List.take_zero, hds_nil, show ((0 : Nat) : Int) = 0 from rfl] at l3
  have vtc : VT t → Ch t 0 ∧ hds t.fHeads.length t.fSlots = t.fHeads := fun h => by
   refine ⟨fun i _ hi => ?_, h.hd.symm⟩
   obtain ⟨⟨_, _, _, q⟩, _⟩ := h.cs i (Nat.zero_le _) hi
   rw [if_pos q4] at q
   exact q
  by_cases q9 : Ch t 0
  case neg => rw [l3.2 q9]; exact neg (fun h => q9 (vtc h).1) rfl
  rw [l3.1 q9, sb]
  dsimp only
  rw [equal_eq _ _ (by rw [hds_len]) (by rw [hds_len]; omega), sb]
  by_cases q10 : hds t.fHeads.length t.fSlots = t.fHeads
  ·rw [decide_eq_true q10]
   refine pos ?_ rfl
   have := VT.hashed (n := t.fHeads.length) (L := t.fSlots) (nx := t.fNext) (c := t.fCount) q1 hp (by omega) (fun i hi => q9 i (Nat.zero_le _) hi) q2.kv q2.dis q3
   rw [q10] at this
   rw [← q4] at this
   exact this
  ·rw [decide_eq_false q10]; exact neg (fun h => q10 (vtc h).2) rfl
 ·rw [if_neg q4]
  have sz : VT t → t.fHeads.length = 0 ∧ (t.fSlots.length : Int) ≤ t.fNext := fun h => by
   have h := h.sz; unfold H1 at h; rw [if_neg q4] at h; exact h
  by_cases q5 : (t.fHeads.length : Int) > 0
  ·rw [if_pos q5]; exact neg (fun h => by have := (sz h).1; omega) rfl
  have em : m_i_Min t.fNext 1024 = some (if 1024 < t.fNext then 1024 else t.fNext) := by
   unfold m_i_Min
   split <;> rfl
  rw [if_neg q5, em, sb]
  by_cases q6 : (t.fSlots.length : Int) > (if 1024 < t.fNext then 1024 else t.fNext)
  ·rw [if_pos q6]
   refine neg (fun h => ?_) rfl
   have h1 := (sz h).2
   have h2 := h.sl
   split at q6 <;> omega
  rw [if_neg q6]
  by_cases q7 : Cf t 0
  ·rw [l2.1 q7]
   refine pos ?_ rfl
   have h1 : t.fSlots.length ≤ 1024 ∧ (t.fSlots.length : Int) ≤ t.fNext := by split at q6 <;> omega
   have e0 : t.fHeads = [] := List.eq_nil_of_length_eq_zero (by omega)
   have := VT.flat (L := t.fSlots) (nx := t.fNext) (c := t.fCount) q1 h1.1 h1.2 (fun i hi => q7 i (Nat.zero_le _) hi) q2.kv q3
   have e1 : t.fHashed = false := by simpa using q4
   rw [← e0, ← e1] at this
   exact this
  ·rw [l2.2 q7]
   refine neg (fun h => q7 (fun i _ hi => ?_)) rfl
   obtain ⟨⟨_, _, _, q⟩, _⟩ := h.cs i (Nat.zero_le _) hi
   rw [if_neg q4] at q
   exact q
end Go.Am
