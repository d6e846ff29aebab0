/- The plain law, thirteenth part: the reference's check of dropped code, and the law. -/
import Derived.Test.YtnehfdofoemnfaaP12
set_option linter.unusedVariables false
set_option linter.unusedSimpArgs false
namespace Go.Am
open Go Go.RowKit Go.Proofs
structure SI (a : TFunc) (H K l : List Int) (k i : Nat) : Prop where
 le : k ≤ K.length
 lt : ∀ j, j < k → 0 ≤ gI K j ∧ gI K j < (i : Int)
 inc : ∀ j, j + 1 < k → gI K j < gI K (j + 1)
 len : l.length = i
 to : ∀ x, x < i → ∃ kx : Nat, gI l x = (kx : Int) ∧ kx ≤ k ∧ (∀ j, j < kx → gI K j < (x : Int)) ∧ ∀ j, kx ≤ j → j < k → (x : Int) ≤ gI K j
 dead : ∀ x, x < i → (∃ j, j < k ∧ gI K j = (x : Int)) ∨ ¬ 0 ≤ gI H x ∨ (gC a.fCode x).fOp = 1
 ahead : Mono a.fCode.length K → ∀ j, k ≤ j → j < K.length → (i : Int) ≤ gI K j
theorem gI_app {l : List Int} {v : Int} {x : Nat} : gI (l ++ [v]) x = if x < l.length then gI l x else if x = l.length then v else 0 := by
 unfold gI
 rw [List.getD_eq_getElem?_getD, List.getD_eq_getElem?_getD]
 by_cases h : x < l.length
 ·rw [if_pos h, List.getElem?_append_left h]
 ·rw [if_neg h, List.getElem?_append_right (by omega)]
  by_cases h2 : x = l.length
  ·rw [if_pos h2, show x - l.length = 0 by omega]; rfl
  ·rw [if_neg h2, List.getElem?_eq_none (by simp; omega)]; rfl
theorem SI.to_next {a : TFunc} {H K l : List Int} {k i : Nat} (s : SI a H K l k i) (k' : Nat) (h1 : k ≤ k') (h2 : ∀ j, k ≤ j → j < k' → (i : Int) ≤ gI K j) :
  ∀ x, x < i + 1 → ∃ kx : Nat, gI (l ++ [(k : Int)]) x = (kx : Int) ∧ kx ≤ k' ∧ (∀ j, j < kx → gI K j < (x : Int)) ∧ ∀ j, kx ≤ j → j < k' → (x : Int) ≤ gI K j := by
 intro x hx
 rw [gI_app, s.len]
 rcases Nat.lt_succ_iff_lt_or_eq.1 hx with h | rfl
 ·obtain ⟨kx, q1, q2, q3, q4⟩ := s.to x h
  rw [if_pos h]
  refine ⟨kx, q1, by omega, q3, fun j h3 h4 => ?_⟩
  by_cases hj : j < k
  ·exact q4 j h3 hj
  ·have := h2 j (by omega) h4
   omega
 ·rw [if_neg (by omega), if_pos rfl]
  exact ⟨k, rfl, h1, fun j hj => (s.lt j hj).2, fun j h3 h4 => h2 j h3 h4⟩
theorem SI.hit {a : TFunc} {H K l : List Int} {k i : Nat} (s : SI a H K l k i) (hk : k < K.length) (he : gI K k = (i : Int)) : SI a H K (l ++ [(k : Int)]) (k + 1) (i + 1) := by
 refine ⟨hk, fun j hj => ?_, fun j hj => ?_, by rw [List.length_append, s.len]; rfl, s.to_next (k + 1) (by omega) (fun j h1 h2 => by have : j = k := (by omega); subst this; omega), fun x hx => ?_, fun hm j h1 h2 => ?_⟩
 ·rcases Nat.lt_succ_iff_lt_or_eq.1 hj with h | rfl
  ·have := s.lt j h; omega
  ·omega
 ·rcases Nat.lt_succ_iff_lt_or_eq.1 hj with h | h
  ·exact s.inc j h
  ·have := s.lt j (by omega)
   rw [h, he]; omega
 ·rcases Nat.lt_succ_iff_lt_or_eq.1 hx with h | rfl
  ·rcases s.dead x h with ⟨j, q1, q2⟩ | q
   ·exact .inl ⟨j, by omega, q2⟩
   ·exact .inr q
  ·exact .inl ⟨k, by omega, he⟩
 ·have := hm.lt k j (by omega) h2
  omega
theorem SI.miss {a : TFunc} {H K l : List Int} {k i : Nat} (s : SI a H K l k i) (he : ¬ (k < K.length ∧ gI K k = (i : Int))) (hd : ¬ 0 ≤ gI H i ∨ (gC a.fCode i).fOp = 1) : SI a H K (l ++ [(k : Int)]) k (i + 1) := by
 refine ⟨s.le, fun j hj => ?_, s.inc, by rw [List.length_append, s.len]; rfl, s.to_next k (Nat.le_refl _) (fun j h1 h2 => absurd h2 (by omega)), fun x hx => ?_, fun hm j h1 h2 => ?_⟩
 ·have := s.lt j hj; omega
 ·rcases Nat.lt_succ_iff_lt_or_eq.1 hx with h | rfl
  ·exact s.dead x h
  ·exact .inr hd
 ·have h3 := s.ahead hm j h1 h2
  have h4 : gI K k ≠ (i : Int) := fun q => he ⟨by omega, q⟩
  have h5 := s.ahead hm k (Nat.le_refl _) (by omega)
  rcases Nat.eq_or_lt_of_le h1 with rfl | h6
  ·omega
  ·have := hm.lt k j h6 h2
   omega
theorem sScan (a : TFunc) (H K : List Int) (hn : a.fCode.length ≤ 2000000) (hK : K.length ≤ 2000000) (hH : H.length = a.fCode.length) : ∀ (f i k : Nat) (l : List Int), a.fCode.length ≤ i + f → i ≤ a.fCode.length → SI a H K l k i →
  ∃ o, m_s_CheckDrop_L2 a K H l (k : Int) (i : Int) = some o ∧ ((o = .inr false ∧ ¬ (Mono a.fCode.length K ∧ Dead a H K)) ∨ ∃ l' k', o = .inl (l', ((k' : Nat) : Int)) ∧ SI a H K l' k' a.fCode.length)
 | f, i, k, l, hf, hi, s => by
  rw [m_s_CheckDrop_L2]
  by_cases hc : i < a.fCode.length
  ·obtain ⟨g, rfl⟩ : ∃ g, f = g + 1 := ⟨f - 1, by omega⟩
   have hle := s.le
   have hlen := s.len
   rw [if_pos (by omega), lapp_eq (by simp; omega), sb, w_succ (by omega), w_succ (by omega)]
   have eb : ((if (k : Int) < (K.length : Int) then idx K (k : Int) >>= fun x32 => some (x32 == (i : Int)) else some false) : Option Bool) = some (decide (k < K.length ∧ gI K k = (i : Int))) := by
    by_cases h1 : k < K.length
    ·rw [if_pos (by omega), idx_gI h1, sb]
     congr 1
     rw [Bool.eq_iff_iff, beq_iff_eq, decide_eq_true_iff]
     exact ⟨fun h => ⟨h1, h⟩, fun h => h.2⟩
    ·rw [if_neg (by omega), decide_eq_false (fun h => h1 h.1)]
   rw [eb, sb]
   by_cases he : k < K.length ∧ gI K k = (i : Int)
   ·rw [if_pos (by rw [decide_eq_true he])]
    exact sScan a H K hn hK hH g (i + 1) (k + 1) _ (by omega) (by omega) (s.hit he.1 he.2)
   ·rw [if_neg (by rw [decide_eq_false he]; simp), idx_gI (by omega), sb]
    by_cases h1 : gI H i ≥ 0
    ·rw [if_pos h1, idx_gC hc, sb]
     by_cases h2 : (gC a.fCode i).fOp = 1
     ·rw [if_pos h2]
      exact sScan a H K hn hK hH g (i + 1) k _ (by omega) (by omega) (s.miss he (.inr h2))
     ·rw [if_neg h2]
      refine ⟨_, rfl, .inl ⟨rfl, fun ⟨hm, hd⟩ => ?_⟩⟩
      rcases hd i hc with ⟨j, q1, q2⟩ | q | q
      ·by_cases hj : j < k
       ·have := (s.lt j hj).2; omega
       ·rcases Nat.eq_or_lt_of_le (Nat.le_of_not_lt hj) with rfl | h6
        ·exact he ⟨q1, q2⟩
        ·have h7 := hm.lt k j h6 q1
         have h8 := s.ahead hm k (Nat.le_refl _) (by omega)
         omega
      ·exact q h1
      ·exact h2 q
    ·rw [if_neg h1]
     exact sScan a H K hn hK hH g (i + 1) k _ (by omega) (by omega) (s.miss he (.inl h1))
  ·rw [if_neg (by omega)]
   have : i = a.fCode.length := by omega
   subst this
   exact ⟨_, rfl, .inr ⟨l, k, rfl, s⟩⟩
theorem cnt_at {K : List Int} {x : Int} {m : Nat} (hm : m ≤ K.length) (h1 : ∀ j, j < m → gI K j < x) (h2 : ∀ j, m ≤ j → j < K.length → x ≤ gI K j) : cnt K x = m := by
 unfold cnt
 have e : K = K.take m ++ K.drop m := (List.take_append_drop m K).symm
 rw [e, List.countP_append]
 have e1 : (K.take m).countP (fun k => decide (k < x)) = (K.take m).length := List.countP_eq_length.2 (fun v hv => by
  obtain ⟨j, hj, rfl⟩ := List.mem_iff_getElem.1 hv
  have hj2 : j < m := by rw [List.length_take] at hj; omega
  have := h1 j hj2
  rw [gI_at (by omega)] at this
  rw [List.getElem_take]; simpa using this)
 have e2 : (K.drop m).countP (fun k => decide (k < x)) = 0 := List.countP_eq_zero.2 (fun v hv => by
  obtain ⟨j, hj, rfl⟩ := List.mem_iff_getElem.1 hv
  have hj2 : m + j < K.length := by rw [List.length_drop] at hj; omega
  have := h2 (m + j) (by omega) hj2
  rw [gI_at hj2] at this
  rw [List.getElem_drop]; simp; omega)
 rw [e1, e2, List.length_take]
 omega
theorem sKept (a b : TFunc) (K l : List Int) (hn : a.fCode.length ≤ 2000000) (hK : K.length ≤ 2000000) (hl : K.length = b.fCode.length) (hm : Mono a.fCode.length K) (hll : l.length = a.fCode.length) (hto : ∀ x, x < a.fCode.length → gI l x = (cnt K (x : Int) : Int))
  (hA : ∀ i (hi : i < a.fCode.length), tgt (a.fCode[i]).fOp = true → 0 ≤ (a.fCode[i]).fA ∧ (a.fCode[i]).fA < a.fCode.length) :
  ∃ v : Bool, m_s_CheckDrop_L4 a b K l 0 = some (if v = true then .inl () else .inr false) ∧ (v = true ↔ Kept a b K) := by
 refine ⟨_, loop_all0 (L := m_s_CheckDrop_L4 a b K l) (fun i => decide (gC b.fCode i = mv (gC a.fCode (gI K i).toNat) K)) K.length (fun k hk => ?_) (by rw [m_s_CheckDrop_L4, if_neg (by omega)]), ?_⟩
 ·obtain ⟨r1, r2⟩ := hm.1 k hk
  obtain ⟨n, hk2⟩ : ∃ n : Nat, gI K k = (n : Int) := ⟨(gI K k).toNat, by omega⟩
  have hna : n < a.fCode.length := by omega
  rw [m_s_CheckDrop_L4, if_pos (by omega), idx_gI hk, sb, hk2, idx_gC hna, sb, sTgt, sb, w_succ (by omega), Int.toNat_natCast]
  unfold mv
  have hT := hA n hna
  rw [← gC_at hna] at hT
  generalize hx : gC a.fCode n = x at hT ⊢
  cases ht : tgt x.fOp
  ·rw [if_neg (by simp), idx_gC (by omega), sb, if_neg (show ¬ (false = true) by simp)]
   by_cases h : x = gC b.fCode k
   ·rw [if_pos h, decide_eq_true h.symm]; exact ⟨fun _ => rfl, fun h => by cases h⟩
   ·rw [if_neg h, decide_eq_false (fun q => h q.symm)]; exact ⟨fun h => by (cases h), fun _ => rfl⟩
  ·have hT := hT ht
   obtain ⟨t, h4⟩ : ∃ t : Nat, x.fA = (t : Int) := ⟨x.fA.toNat, by omega⟩
   rw [if_pos rfl, h4, idx_gI (by omega), sb, idx_gC (by omega), sb, if_pos rfl, hto t (by omega)]
   by_cases h : TIns.mk x.fOp (cnt K (t : Int) : Int) x.fB x.fS x.fT = gC b.fCode k
   ·rw [if_pos h, decide_eq_true h.symm]; exact ⟨fun _ => rfl, fun h => by cases h⟩
   ·rw [if_neg h, decide_eq_false (fun q => h q.symm)]; exact ⟨fun h => by (cases h), fun _ => rfl⟩
 ·rw [allN_iff]
  unfold Kept
  constructor
  ·intro h i hi; simpa using h i (Nat.zero_le _) hi
  ·intro h i _ hi; simpa using h i hi
theorem drop_eq (a b : TFunc) (K : List Int) (ha : Fits a) (hb : Fits b) (hK : K.length ≤ 2000000) : ∃ v, m_i_CheckDrop a b K = some v ∧ m_s_CheckDrop a b K = some v := by
 unfold m_i_CheckDrop m_s_CheckDrop
 obtain ⟨v1, i1, s1, f1⟩ := isFunc_fits a ha
 obtain ⟨v2, i2, s2, _⟩ := isFunc_fits b hb
 obtain ⟨v3, i3, s3⟩ := agree_eq a b ha
 refine three i1 i2 i3 s1 s2 s3 fun h1 h2 h3 => ?_
 obtain ⟨H, eH, sH, hH, hA⟩ := f1 h1
 have hc := ha.code
 by_cases hl : K.length = b.fCode.length
 case neg =>
  rw [if_neg (by omega), if_neg (by omega)]
  exact ⟨_, rfl, rfl⟩
 rw [if_pos (by omega), if_pos (by omega), eH, sH]
 have pi : ∃ v : Bool, (m_i_CheckDrop_L2 a b K [] 0 >>= fun o12 => match o12 with
   | .inr r => some r
   | .inl l11 => some (H, true) >>= fun (v48, v49) => (m_i_CheckDrop_L4 a l11 v48 0 >>= fun o51 => match o51 with
    | .inr r => some r
    | .inl _ => some true)) = some v ∧ (v = true ↔ Mono a.fCode.length K ∧ Kept a b K ∧ Dead a H K) := by
  obtain ⟨o, e, h⟩ := iChk_go a b K hc hK hl K.length 0 [] (by omega) (by omega) (fun x => ⟨fun h => by simp [mgd, mfind] at h, fun ⟨j, h, _⟩ => absurd h (Nat.not_lt_zero _)⟩)
  rw [show ((0 : Nat) : Int) = 0 from rfl] at e
  rw [e, sb]
  rcases h with ⟨rfl, j, q1, q2, q3⟩ | ⟨m', rfl, q1, q2⟩
  ·refine ⟨false, rfl, fun h => (by cases h), fun ⟨h1, h2, _⟩ => ?_⟩
   have := chk_iff.2 ⟨h1, h2⟩ j q1 q2
   rw [q3] at this; cases this
  ·obtain ⟨v, ev, hv⟩ := iDead a H K m' hc hH q1
   obtain ⟨hm, hk⟩ := chk_iff.1 q2
   dsimp only
   rw [sb]
   dsimp only
   rw [ev, sb]
   cases v
   ·exact ⟨false, rfl, fun h => (by cases h), fun ⟨_, _, h⟩ => hv.2 h⟩
   ·exact ⟨true, rfl, fun _ => ⟨hm, hk, hv.1 rfl⟩, fun _ => rfl⟩
 have ps : ∃ v : Bool, (some (H, true) >>= fun (v11, v12) => (m_s_CheckDrop_L2 a K v11 [] 0 0 >>= fun o16 => match o16 with
   | .inr r => some r
   | .inl (l14, y15) => (if y15 = (K.length : Int) then (m_s_CheckDrop_L4 a b K l14 0 >>= fun o44 => match o44 with
    | .inr r => some r
    | .inl _ => some true) else some false))) = some v ∧ (v = true ↔ Mono a.fCode.length K ∧ Kept a b K ∧ Dead a H K) := by
  obtain ⟨o, e, h⟩ := sScan a H K hc hK hH a.fCode.length 0 0 [] (by omega) (by omega) ⟨Nat.zero_le _, fun j h => absurd h (by omega), fun j h => absurd h (by omega), rfl, fun x h => absurd h (by omega), fun x h => absurd h (by omega), fun hm j _ hj => (hm.1 j hj).1⟩
  rw [show ((0 : Nat) : Int) = 0 from rfl] at e
  rw [sb]
  dsimp only
  rw [e, sb]
  rcases h with ⟨rfl, h⟩ | ⟨l', k', rfl, s⟩
  ·exact ⟨false, rfl, fun h => (by cases h), fun ⟨h1, _, h3⟩ => absurd ⟨h1, h3⟩ h⟩
  ·dsimp only
   have hle := s.le
   by_cases hk : k' = K.length
   ·subst hk
    have hm : Mono a.fCode.length K := ⟨fun j hj => s.lt j hj, s.inc⟩
    obtain ⟨v, ev, hv⟩ := sKept a b K l' hc hK hl hm s.len (fun x hx => by
     obtain ⟨kx, q1, q2, q3, q4⟩ := s.to x hx
     rw [q1, cnt_at q2 q3 q4]) hA
    rw [if_pos rfl, ev, sb]
    cases v
    ·exact ⟨false, rfl, fun h => (by cases h), fun ⟨_, h, _⟩ => hv.2 h⟩
    ·exact ⟨true, rfl, fun _ => ⟨hm, hv.1 rfl, fun i hi => s.dead i hi⟩, fun _ => rfl⟩
   ·rw [if_neg (by omega)]
    refine ⟨false, rfl, fun h => (by cases h), fun ⟨h1, _, _⟩ => ?_⟩
    have h2 := s.ahead h1 k' (Nat.le_refl _) (by omega)
    have h3 := (h1.1 k' (by omega)).2
    omega
 obtain ⟨v, ev, hv⟩ := pi
 obtain ⟨u, eu, hu⟩ := ps
 have : u = v := by rw [Bool.eq_iff_iff, hv, hu]
 subst this
 exact ⟨u, ev, eu⟩
theorem law_drop (a b : TFunc) (K : List Int) (ha : a.Ok) (hb : b.Ok) (hK : K.length ≤ 9223372036854775807) : m_l_FnExactCheckDrop a b K = some true := by
 unfold m_l_FnExactCheckDrop
 by_cases h0 : (K.length : Int) > 1048576
 ·rw [if_pos h0]
 rw [if_neg h0]
 obtain ⟨v1, e1, c1⟩ := szFunc_eq a ha 1048576 (by omega) (by omega)
 rw [e1, sb]
 rcases c1 with rfl | ⟨p1, p2, fa⟩
 ·rw [if_pos (by omega)]
 rw [if_neg (by omega)]
 obtain ⟨v2, e2, c2⟩ := szFunc_eq b hb v1 p1 (by omega)
 rw [e2, sb]
 rcases c2 with rfl | ⟨q1, q2, fb⟩
 ·rw [if_pos (by omega)]
 rw [if_neg (by omega)]
 obtain ⟨v, hi, hs⟩ := drop_eq a b K fa fb (by omega)
 rw [toFunc_eq a fa, toFunc_eq b fb, toIntS_eq K (by omega), sb, sb, sb, hs, sb, sb, sb, sb, hi, sb, if_pos rfl, sb, eqFunc_self a fa, sb, if_pos rfl, sb, eqFunc_self b fb, sb, if_pos rfl, sb, eqIntS_self K (by omega), sb, if_pos rfl]
end Go.Am
