/- The plain law, sixteenth part: dropped code. -/
import Derived.Test.YtnehfdofoemnfaaP15
set_option linter.unusedVariables false
set_option linter.unusedSimpArgs false
namespace Go.Am
open Go Go.RowKit Go.Proofs
section
variable (code : List TIns) (H : List Int)
def keepB (i : Nat) : Bool := decide (0 ≤ gI H i) && !decide ((gC code i).fOp = 1)
def kp (k : Nat) : List Int := ((List.range k).filter (keepB code H)).map fun i : Nat => (i : Int)
def tos (k : Nat) : List Int := (List.range k).map fun i => ((kp code H i).length : Int)
theorem kp_succ (k : Nat) : kp code H (k + 1) = if keepB code H k = true then kp code H k ++ [(k : Int)] else kp code H k := by
 unfold kp
 rw [List.range_succ, List.filter_append, List.map_append]
 cases h : keepB code H k
 ·rw [if_neg (by simp)]; simp [h]
 ·rw [if_pos rfl]; simp [h]
theorem tos_succ (k : Nat) : tos code H (k + 1) = tos code H k ++ [((kp code H k).length : Int)] := by
 unfold tos; rw [List.range_succ, List.map_append]; rfl
theorem kp_len (k : Nat) : (kp code H k).length ≤ k := by
 unfold kp
 rw [List.length_map]
 have := List.length_filter_le (keepB code H) (List.range k)
 simpa using this
theorem kp_lt {k : Nat} {x : Int} (h : x ∈ kp code H k) : ∃ i : Nat, x = (i : Int) ∧ i < k := by
 unfold kp at h
 obtain ⟨i, hi, rfl⟩ := List.mem_map.1 h
 exact ⟨i, rfl, List.mem_range.1 (List.mem_filter.1 hi).1⟩
theorem cnt_kp (t : Nat) : ∀ d : Nat, cnt (kp code H (t + d)) (t : Int) = (kp code H t).length
 | 0 => by
  unfold cnt
  exact List.countP_eq_length.2 (fun x hx => by obtain ⟨i, rfl, hi⟩ := kp_lt code H hx; simpa using hi)
 | d + 1 => by
  rw [← Nat.add_assoc, kp_succ]
  split
  ·unfold cnt
   rw [List.countP_append]
   have := cnt_kp t d
   unfold cnt at this
   rw [this]
   simp
   omega
  ·exact cnt_kp t d
theorem gI_tos {k t : Nat} (h : t < k) : gI (tos code H k) t = ((kp code H t).length : Int) := by
 unfold gI tos
 simp [List.getD_eq_getElem?_getD, h]
end
theorem iKept (a : TFunc) (H : List Int) (hn : a.fCode.length ≤ 2000000) (hH : H.length = a.fCode.length) : ∀ (f k : Nat), a.fCode.length ≤ k + f → k ≤ a.fCode.length → m_i_DropCode_L2 a H (kp a.fCode H k) (k : Int) = some (kp a.fCode H a.fCode.length)
 | f, k, hf, hk => by
  rw [m_i_DropCode_L2]
  by_cases hc : k < a.fCode.length
  ·obtain ⟨g, rfl⟩ : ∃ g, f = g + 1 := ⟨f - 1, by omega⟩
   have ih := iKept a H hn hH g (k + 1) (by omega) (by omega)
   have hl := kp_len a.fCode H k
   rw [kp_succ] at ih
   unfold keepB at ih
   rw [if_pos (by omega), idx_gC hc, sb, idx_gI (by omega), sb, w_succ (by omega)]
   by_cases h1 : 0 ≤ gI H k
   ·rw [if_pos (show gI H k ≥ 0 from h1)]
    by_cases h2 : (gC a.fCode k).fOp = 1
    ·rw [if_pos h2]
     rw [if_neg (by simp [h2])] at ih
     exact ih
    ·rw [if_neg h2, lapp_eq (by simp; omega), sb]
     rw [if_pos (by simp [h1, h2])] at ih
     exact ih
   ·rw [if_neg (show ¬ gI H k ≥ 0 from h1)]
    rw [if_neg (by simp [h1])] at ih
    exact ih
  ·have : k = a.fCode.length := by omega
   subst this
   rw [if_neg (by omega)]
theorem sKeptL (a : TFunc) (H : List Int) (hn : a.fCode.length ≤ 2000000) (hH : H.length = a.fCode.length) : ∀ (f k : Nat), a.fCode.length ≤ k + f → k ≤ a.fCode.length →
  m_s_DropCode_L2 a H (kp a.fCode H k) (tos a.fCode H k) (k : Int) = some (kp a.fCode H a.fCode.length, tos a.fCode H a.fCode.length)
 | f, k, hf, hk => by
  rw [m_s_DropCode_L2]
  by_cases hc : k < a.fCode.length
  ·obtain ⟨g, rfl⟩ : ∃ g, f = g + 1 := ⟨f - 1, by omega⟩
   have ih := sKeptL a H hn hH g (k + 1) (by omega) (by omega)
   have hl := kp_len a.fCode H k
   have ht : (tos a.fCode H k).length = k := by simp [tos]
   rw [kp_succ, tos_succ] at ih
   unfold keepB at ih
   rw [if_pos (by omega), lapp_eq (by simp; omega), sb, idx_gI (by omega), sb, w_succ (by omega)]
   by_cases h1 : 0 ≤ gI H k
   ·rw [if_pos (show gI H k ≥ 0 from h1), idx_gC hc, sb]
    by_cases h2 : (gC a.fCode k).fOp = 1
    ·rw [if_pos h2]
     rw [if_neg (by simp [h2])] at ih
     exact ih
    ·rw [if_neg h2, lapp_eq (by simp; omega), sb]
     rw [if_pos (by simp [h1, h2])] at ih
     exact ih
   ·rw [if_neg (show ¬ gI H k ≥ 0 from h1)]
    rw [if_neg (by simp [h1])] at ih
    exact ih
  ·have : k = a.fCode.length := by omega
   subst this
   rw [if_neg (by omega)]
theorem app_go {α : Type} (K : List Int) (g : Int → α) (L : List α → Int → Option (List α)) (hs : ∀ (l : List α) (k : Nat) (h : k < K.length), l.length = k → L l (k : Int) = L (l ++ [g K[k]]) ((k + 1 : Nat) : Int))
  (he : ∀ l : List α, L l (K.length : Int) = some l) : L [] 0 = some (K.map g) := by
 suffices h : ∀ (f k : Nat), K.length ≤ k + f → k ≤ K.length → L ((K.take k).map g) (k : Int) = some (K.map g) by
  have := h K.length 0 (by omega) (by omega)
  simpa using this
 intro f
 induction f with
 | zero =>
  intro k hf hk
  have : k = K.length := by omega
  subst this
  rw [he, List.take_length]
 | succ f ih =>
  intro k hf hk
  by_cases hc : k < K.length
  ·rw [hs _ k hc (by simp; omega), ← ih (k + 1) (by omega) (by omega), ← List.take_append_getElem hc, List.map_append]
   rfl
  ·have : k = K.length := by omega
   subst this
   rw [he, List.take_length]
theorem iDrop (a : TFunc) (H : List Int) (ha : Fits a) : m_i_DropCode_L4 a (kp a.fCode H a.fCode.length) [] 0 = some ((kp a.fCode H a.fCode.length).map fun k => mv (gC a.fCode k.toNat) (kp a.fCode H a.fCode.length)) := by
 have hc := ha.code
 have hl := kp_len a.fCode H a.fCode.length
 refine app_go _ _ _ (fun l k hk hl2 => ?_) (fun l => by rw [m_i_DropCode_L4, if_neg (by omega)])
 obtain ⟨i, ei, hi⟩ := kp_lt a.fCode H (List.getElem_mem hk)
 rw [m_i_DropCode_L4, if_pos (by omega), idx_nat hk, sb, ei, idx_gC hi, sb, moved_eq _ _ (by omega), sb, lapp_eq (by simp; omega), sb, w_succ (by omega), Int.toNat_natCast]
theorem sDrop (a : TFunc) (H : List Int) (ha : Fits a) (hA : ∀ i (hi : i < a.fCode.length), tgt (a.fCode[i]).fOp = true → 0 ≤ (a.fCode[i]).fA ∧ (a.fCode[i]).fA < a.fCode.length) : m_s_DropCode_L4 a (kp a.fCode H a.fCode.length) (tos a.fCode H a.fCode.length) [] 0 = some ((kp a.fCode H a.fCode.length).map fun k => mv (gC a.fCode k.toNat) (kp a.fCode H a.fCode.length)) := by
 have hc := ha.code
 have hl := kp_len a.fCode H a.fCode.length
 refine app_go _ _ _ (fun l k hk hl2 => ?_) (fun l => by rw [m_s_DropCode_L4, if_neg (by omega)])
 obtain ⟨i, ei, hi⟩ := kp_lt a.fCode H (List.getElem_mem hk)
 have hT := hA i hi
 rw [← gC_at hi] at hT
 rw [m_s_DropCode_L4, if_pos (by omega), idx_nat hk, sb, ei, idx_gC hi, sb, sTgt, sb, w_succ (by omega), Int.toNat_natCast]
 unfold mv
 generalize gC a.fCode i = x at hT ⊢
 cases ht : tgt x.fOp
 ·rw [if_neg (by simp), lapp_eq (by simp; omega), sb, if_neg (by simp)]
 ·have hT := hT ht
  obtain ⟨t, h4⟩ : ∃ t : Nat, x.fA = (t : Int) := ⟨x.fA.toNat, by omega⟩
  have e : cnt (kp a.fCode H a.fCode.length) (t : Int) = (kp a.fCode H t).length := by
   have := cnt_kp a.fCode H t (a.fCode.length - t)
   rwa [show t + (a.fCode.length - t) = a.fCode.length by omega] at this
  rw [if_pos rfl, h4, idx_gI (by simp [tos]; omega), sb, gI_tos a.fCode H (by omega), lapp_eq (by simp; omega), sb, if_pos rfl, e]
theorem drop_code (a : TFunc) (ha : Fits a) : ∃ w K, m_i_DropCode a = some (w, K) ∧ m_s_DropCode a = some (w, K) ∧ Fits w ∧ K.length ≤ 2000000 := by
 unfold m_i_DropCode m_s_DropCode
 obtain ⟨v1, i1, s1, f1⟩ := isFunc_fits a ha
 obtain ⟨l, b, i2, s2, _⟩ := heights a ha.code
 rw [iCopy_eq a ha, sCopy_eq a ha, i1, s1, sb, s2]
 have hc := ha.code
 cases v1
 ·simp only [sb]
  rw [if_neg (by simp)]
  cases b
  ·exact ⟨_, _, rfl, rfl, ha, by simp⟩
  ·exact ⟨_, _, rfl, rfl, ha, by simp⟩
 ·obtain ⟨H, eH, sH, hH, hA⟩ := f1 rfl
  rw [s2] at sH
  injection sH with sH
  injection sH with q1 q2
  subst q1 q2
  have k1 := iKept a l hc hH a.fCode.length 0 (by omega) (by omega)
  have k2 := sKeptL a l hc hH a.fCode.length 0 (by omega) (by omega)
  have z1 : kp a.fCode l 0 = [] := rfl
  have z2 : tos a.fCode l 0 = [] := rfl
  rw [z1, show ((0 : Nat) : Int) = 0 from rfl] at k1
  rw [z1, z2, show ((0 : Nat) : Int) = 0 from rfl] at k2
  simp only [sb, i2, if_true, k1, k2, iDrop a l ha, sDrop a l ha hA]
  have hl := kp_len a.fCode l a.fCode.length
  exact ⟨_, _, rfl, rfl, ⟨by simp; omega, ha.slots, ha.params, ha.uses, ha.name⟩, by omega⟩
theorem law_dropCode (a : TFunc) (ha : a.Ok) : m_l_FnExactDropCode a = some true := by
 unfold m_l_FnExactDropCode
 obtain ⟨v1, e1, c1⟩ := szFunc_eq a ha 1048576 (by omega) (by omega)
 rw [e1, sb]
 rcases c1 with rfl | ⟨p1, p2, fa⟩
 ·rw [if_pos (by omega)]
 rw [if_neg (by omega)]
 obtain ⟨w, K, hi, hs, fw, hK⟩ := drop_code a fa
 have em := mkN_pos a 1 (by omega)
 have ew := mkN_pos w 1 (by omega)
 have q1 := fw.params
 have q2 := fw.uses
 have q3 := fw.slots
 have q4 := fw.code
 have eu : mkN w 1 ≤ 900000000 := by unfold mkN; omega
 have hh : TFunc.mk w.fName (mkF w 1).fParams (mkF w 1).fUses (mkF w 1).fSlots w.fGen (mkF w 1).fCode = mkF w 1 := rfl
 simp only [toFunc_eq a fa, sb, hs, hi, eqFunc_self w fw, eqFunc_self a fa, eqIntS_self K hK, if_true, markFunc_eq a fa 1 (by omega) (by omega), markFunc_eq w fw 1 (by omega) (by omega), markIntS_eq K (mkN w 1) ew (by omega), hh, heldFunc_eq w fw 1 (by omega) (by omega), heldIntS_eq K.length (mkN w 1) ew (by omega)]
 repeat rw [if_neg (by omega)]
theorem law_dropCodeA (a : TFunc) (ha : a.Ok) : ACall Try.prog 6 [.agg a.cells] [] (fun res _ => res = .bool true) :=
 (ok_l_FnExactDropCode (law_dropCode a ha)).mono (fun _ _ h => h.1)
end Go.Am
