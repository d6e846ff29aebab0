/- The law FnPacked. -/
import Derived.Test.YtgkniabpdgaoiaaDoorQ7
import Derived.Test.YtgkniabpdgaoiaaDoorE1
set_option linter.unusedVariables false
set_option linter.unusedSimpArgs false
namespace Go.Am
open Go Go.RowKit Go.Proofs
theorem isv_eq {v : TValue} (hv : v.wt ≤ 1000000) : m_i_IsValue v = some (decide (v.kw ≤ 200) && v.vok) := by
 unfold m_i_IsValue
 rw [weight_eq _ (Nat.le_refl _) v hv, sb, wellFormed_eq _ (Nat.le_refl _) v hv]
 by_cases h : v.kw ≤ 200
 ·rw [if_pos (by omega), sb, decide_eq_true h]; rfl
 ·rw [if_neg (by omega), decide_eq_false h]; rfl
theorem ssv_eq {v : TValue} (hv : v.wt ≤ 1000000) : m22 v = some (decide (v.kw ≤ 200) && v.vok) := by
 obtain ⟨r, e3, g1, g2, g3⟩ := weigh_eq 1000000 (Nat.le_refl _) v hv 200 (by omega) (by omega)
 unfold m22
 rw [e3, sb, valid_eq 1000000 (Nat.le_refl _) v hv]
 by_cases h : v.kw ≤ 200
 ·rw [if_pos (by have := g2 (by omega); omega), sb, decide_eq_true h]; rfl
 ·rw [if_neg (by have := g3 (by omega); omega), decide_eq_false h]; rfl
theorem kwL_len : ∀ l : List TEntry, l.length ≤ TEntry.kwL l
 | [] => Nat.zero_le _
 | x :: r => by
  have := kwL_len r
  have := kw_pos x.fVal
  rw [kwL_cons]; simp; omega
theorem plain_go (v : TValue) (hl : v.fItems.length ≤ 900) : ∀ (f k : Nat) (b : Bool), v.fItems.length ≤ k + f → k ≤ v.fItems.length → ∃ b', m_l_FnPacked_L2 v b (k : Int) = some b' ∧ (b' = true ↔ b = true ∧ ∀ i (hi : i < v.fItems.length), k ≤ i → v.fItems[i].fKey = iK i)
 | f, k, b, hf, hk => by
  rw [m_l_FnPacked_L2]
  by_cases hc : k < v.fItems.length
  ·obtain ⟨g, rfl⟩ : ∃ g, f = g + 1 := ⟨f - 1, by omega⟩
   rw [if_pos (by omega), w_succ (by omega)]
   cases b
   ·obtain ⟨b', e, h⟩ := plain_go v hl g (k + 1) false (by omega) (by omega)
    rw [if_neg (by simp)]
    exact ⟨b', e, h.trans ⟨fun q => (by cases q.1), fun q => (by cases q.1)⟩⟩
   ·rw [if_pos rfl, idx_nat hc, sb]
    obtain ⟨b', e, h⟩ := plain_go v hl g (k + 1) (decide (v.fItems[k].fKey = TKey.mk false (k : Int) [])) (by omega) (by omega)
    refine ⟨b', e, h.trans ?_⟩
    rw [decide_eq_true_iff]
    constructor
    ·rintro ⟨q1, q2⟩
     refine ⟨rfl, fun i hi hki => ?_⟩
     by_cases he : i = k
     ·subst he; exact q1
     ·exact q2 i hi (by omega)
    ·rintro ⟨_, q⟩
     exact ⟨q k hc (Nat.le_refl _), fun i hi hki => q i hi (by omega)⟩
  ·rw [if_neg (by omega)]
   exact ⟨b, rfl, fun h => ⟨h, fun i hi hki => by omega⟩, fun h => h.1⟩
theorem law_packed (code : List UInt8) : m_l_FnPacked code = some true := by
 unfold m_l_FnPacked
 by_cases hb : (code.length : Int) > 1048576
 ·rw [if_pos hb]
 rw [if_neg hb]
 obtain ⟨c, e1, hc⟩ := m36_ok (b := code) (by omega)
 obtain ⟨v, c', e2, hv, _⟩ := m49_ok hc
 have hwt : v.wt ≤ 2000 := hv
 have ed : m_s_DrawTableOf code = some v := by unfold m_s_DrawTableOf; rw [e1, sb, e2, sb]
 rw [ed, sb, ssv_eq (by omega)]
 unfold m_i_TableOf
 rw [isv_eq (by omega), sb]
 cases hok : (decide (v.kw ≤ 200) && v.vok)
 ·rfl
 simp only [if_true]
 by_cases hk : v.fKind = 4
 case neg =>
  rw [if_neg hk]
  simp only [sb, if_true]
  rw [show (v.fKind == 4) = false by simpa using hk]
  rfl
 rw [if_pos hk]
 rw [Bool.and_eq_true, decide_eq_true_iff] at hok
 obtain ⟨hkw, hvok⟩ := hok
 obtain ⟨p1, p2, p3, p4, p5⟩ := (vok_arr hk).1 hvok
 have hlen : v.fItems.length ≤ 900 := by
  have := kwL_len v.fItems
  rw [v.kw_eq, if_pos hk] at hkw
  omega
 have hsm : Sm v := hv.sm
 obtain ⟨T, eT, hT⟩ := tableOf_go v hsm hlen (fun e he => (p4 e he).1) p5 v.fItems.length 0 (TTable.mk false [] [] 0 0) (by omega) (by omega) (by
  have := St.flat (l := []) (fun i hi => by simp at hi)
  simpa [plS] using this)
 have eT' : m_i_TableOf_L2 v [] [] false 0 0 [] [] 0 = some ([], [], T.fHashed, T.fNext, T.fCount, T.fHeads, T.fSlots) := eT
 have hcount : T.fCount = (v.fItems.length : Int) := by cases hT <;> rfl
 have hhold := hT.holds
 obtain ⟨b, eb, hbp⟩ := plain_go v hlen v.fItems.length 0 true (by omega) (by omega)
 have eb' : m_l_FnPacked_L2 v true 0 = some b := eb
 have evl := value_eq (TTable.mk T.fHashed T.fHeads T.fSlots v.fNext T.fCount) v.fItems hlen (fun e he => hsm.item e he) hhold
 have ev : TValue.mk 4 0 [] v.fNext v.fItems = v := by
  cases v with
  | mk k n s x l =>
   simp at hk p1 p2
   subst hk p1 p2
   rfl
 have hvv : ∀ e ∈ v.fItems, vk e.fKey = true ∧ (e.fKey.fText = true ∨ e.fKey.fNum < v.fNext) := fun e he => ⟨(p4 e he).1, (p4 e he).2.1⟩
 have eis : m_s_IsTable (TTable.mk T.fHashed T.fHeads T.fSlots v.fNext T.fCount) = some true ∧ (T.fHashed = (!b)) := by
  cases hT with
  | flat hp =>
   have : b = true := hbp.2 ⟨rfl, fun i hi _ => hp i hi⟩
   subst this
   exact ⟨istable_flat hp v.fNext p3.1 p3.2 hlen hvv p5, rfl⟩
  | hashed n nx hpw hle hnp =>
   have : b = false := by
    cases b
    ·rfl
    ·exact absurd (fun i hi => (hbp.1 rfl).2 i hi (Nat.zero_le _)) hnp
   subst this
   exact ⟨istable_hashed hpw hle v.fNext p3.1 p3.2 hlen hvv p5, rfl⟩
 rw [eT', sb, sb]
 simp only [sb, if_true]
 rw [show (v.fKind == 4) = true by simpa using hk]
 simp only [sb, if_true, eb', eis.1, evl, ev, m19_refl hsm]
 rw [eis.2]
 cases b <;> rfl
theorem lawPacked (code : List UInt8) : ACall Tryd.prog 4 [sl 1 cB code] [] (fun res _ => res = .bool true) :=
 (ok_l_FnPacked (law_packed code)).mono (fun _ _ h => h.1)
end Go.Am
