/- The plain law, fifteenth part: threaded code. -/
import Derived.Test.YtnehfdofoemnfaaP14
import Derived.Test.YtnehfdofoemnfaaA10
set_option linter.unusedVariables false
set_option linter.unusedSimpArgs false
namespace Go.Am
open Go Go.RowKit Go.Proofs
theorem cloneP_eq (l : List TParam) (hn : l.length ≤ 2000000) : m_CloneP l = some l := by
 unfold m_CloneP; rw [lapp_eq (by simp; omega), sb]; rfl
theorem cloneS_eq (l : List Str) (hn : l.length ≤ 2000000) : m_CloneS l = some l := by
 unfold m_CloneS; rw [lapp_eq (by simp; omega), sb]; rfl
theorem cloneI_eq (l : List TIns) (hn : l.length ≤ 2000000) : m_CloneI l = some l := by
 unfold m_CloneI; rw [lapp_eq (by simp; omega), sb]; rfl
theorem iCopy_eq (a : TFunc) (ha : Fits a) : m_i_copyFunc a = some a := by
 unfold m_i_copyFunc
 rw [cloneP_eq _ ha.params, sb, cloneP_eq _ ha.uses, sb, cloneS_eq _ ha.slots, sb, cloneI_eq _ ha.code, sb]
theorem sCopy_eq (a : TFunc) (ha : Fits a) : m_s_l30Copy a = some a := by
 have q1 := ha.params
 have q2 := ha.uses
 have q3 := ha.slots
 have q4 := ha.code
 unfold m_s_l30Copy
 rw [lapp_eq (by simp; omega), sb, sb, lapp_eq (by simp; omega), sb, sb, lapp_eq (by simp; omega), sb, sb, lapp_eq (by simp; omega), sb]
 rfl
theorem map_go {α : Type} (th : α → α) (code : List α) (L : List α → Int → Option (List α)) (hs : ∀ (l : List α) (k : Nat) (h : k < code.length), l.length = code.length → l[k]? = some code[k] → L l (k : Int) = L (l.set k (th code[k])) ((k + 1 : Nat) : Int))
  (he : ∀ l : List α, l.length = code.length → L l (code.length : Int) = some l) : L code 0 = some (code.map th) := by
 suffices h : ∀ (g k : Nat) (l : List α), code.length ≤ k + g → k ≤ code.length → l.length = code.length → (∀ j, j < k → l[j]? = (code.map th)[j]?) → (∀ j, k ≤ j → l[j]? = code[j]?) → L l (k : Int) = some (code.map th) from
  h code.length 0 code (by omega) (by omega) rfl (fun j hj => absurd hj (by omega)) (fun j _ => rfl)
 intro g
 have fin : ∀ (k : Nat) (l : List α), k = code.length → l.length = code.length → (∀ j, j < k → l[j]? = (code.map th)[j]?) → L l (k : Int) = some (code.map th) := fun k l hk hl h1 => by
  subst hk
  rw [he l hl]
  congr 1
  refine List.ext_getElem? fun j => ?_
  by_cases h : j < code.length
  ·exact h1 j h
  ·rw [List.getElem?_eq_none (by omega), List.getElem?_eq_none (by simp; omega)]
 induction g with
 | zero => intro k l hg hk hl h1 _; exact fin k l (by omega) hl h1
 | succ g ih =>
  intro k l hg hk hl h1 h2
  by_cases hc : k < code.length
  ·rw [hs l k hc hl (by rw [h2 k (by omega), List.getElem?_eq_getElem hc])]
   refine ih (k + 1) _ (by omega) (by omega) (by simpa using hl) (fun j hj => ?_) (fun j hj => ?_)
   ·rw [List.getElem?_set]
    by_cases h : k = j
    ·subst h; rw [if_pos rfl, if_pos (by omega)]; simp [hc]
    ·rw [if_neg h]; exact h1 j (by omega)
   ·rw [List.getElem?_set, if_neg (by omega)]; exact h2 j (by omega)
  ·exact fin k l (by omega) hl h1
def lastW (code : List TIns) (a : Int) : Int := (((a : Int) :: wk code code.length a.toNat).getLast?).getD 0
def th (code : List TIns) (x : TIns) : TIns := if tgt x.fOp = true then ⟨x.fOp, lastW code x.fA, x.fB, x.fS, x.fT⟩ else x
theorem idx_of {α : Type} [Inhabited α] {l : List α} {k : Nat} {x : α} (h : l[k]? = some x) : idx l (k : Int) = some x := by
 obtain ⟨hk, e⟩ := List.getElem?_eq_some_iff.1 h
 rw [idx_nat hk, e]
theorem set_self {α : Type} {l : List α} {k : Nat} {x : α} (h : l[k]? = some x) : l.set k x = l := by
 refine List.ext_getElem? fun j => ?_
 rw [List.getElem?_set]
 by_cases q : k = j
 ·subst q
  obtain ⟨hk, e⟩ := List.getElem?_eq_some_iff.1 h
  rw [if_pos rfl, if_pos hk, h]
 ·rw [if_neg q]
section
variable (a : TFunc) (ha : Fits a) (hA : ∀ i (hi : i < a.fCode.length), tgt (a.fCode[i]).fOp = true → 0 ≤ (a.fCode[i]).fA ∧ (a.fCode[i]).fA < a.fCode.length)
include ha hA
theorem iThread_loop : m_i_ThreadCode_L2 a a.fCode 0 = some (a.fCode.map (th a.fCode)) := by
 have hc := ha.code
 refine map_go (th a.fCode) a.fCode _ (fun l k hk hl he => ?_) (fun l hl => by rw [m_i_ThreadCode_L2, if_neg (by omega)])
 have hT := hA k hk
 rw [m_i_ThreadCode_L2, if_pos (by omega), idx_nat hk, sb, iTgt, sb, w_succ (by omega)]
 generalize hx : a.fCode[k] = x at hT he ⊢
 unfold th
 cases ht : tgt x.fOp
 ·rw [if_neg (by simp), if_neg (by simp), set_self he]
 ·obtain ⟨h0, h1⟩ := hT ht
  obtain ⟨t, et⟩ : ∃ t : Nat, x.fA = (t : Int) := ⟨x.fA.toNat, by omega⟩
  have ew := iWalk (jumps_of hA) hc (a := t) (by omega)
  rw [← et] at ew
  have hlen : ∀ (n t : Nat), (wk a.fCode n t).length ≤ n := fun n => by
   induction n with
   | zero => intro t; simp [wk]
   | succ n ih =>
    intro t
    unfold wk
    cases nxt a.fCode t with
    | none => simp
    | some b => have := ih b; simp; exact this
  have hl2 := hlen a.fCode.length t
  rw [if_pos rfl, if_pos rfl, ew, sb, w_nat (x := (((x.fA :: wk a.fCode a.fCode.length t).length : Nat) : Int) - 1) (n := (wk a.fCode a.fCode.length t).length) (by simp) (by omega)]
  have el : idx (x.fA :: wk a.fCode a.fCode.length t) ((wk a.fCode a.fCode.length t).length : Int) = some (lastW a.fCode x.fA) := by
   rw [idx_nat (by simp)]
   unfold lastW
   rw [List.getLast?_eq_getElem?, et, Int.toNat_natCast]
   simp
  rw [el, sb, idx_of he, sb, Int.toNat_natCast]
theorem sThread_loop : m_s_ThreadCode_L2 a a.fCode 0 = some (a.fCode.map (th a.fCode)) := by
 have hc := ha.code
 refine map_go (th a.fCode) a.fCode _ (fun l k hk hl he => ?_) (fun l hl => by rw [m_s_ThreadCode_L2, if_neg (by omega)])
 have hT := hA k hk
 rw [m_s_ThreadCode_L2, if_pos (by omega), idx_nat hk, sb, sTgt, sb, w_succ (by omega)]
 generalize hx : a.fCode[k] = x at hT he ⊢
 unfold th
 cases ht : tgt x.fOp
 ·rw [if_neg (by simp), if_neg (by simp), set_self he]
 ·obtain ⟨h0, h1⟩ := hT ht
  obtain ⟨t, et⟩ : ∃ t : Nat, x.fA = (t : Int) := ⟨x.fA.toNat, by omega⟩
  obtain ⟨r, ew, hr⟩ := sWalk (jumps_of hA) hc (-1) (a := t) (by omega)
  rw [← et] at ew hr
  have hnn : ∀ (n t : Nat), (-1 : Int) ∉ wk a.fCode n t := fun n => by
   induction n with
   | zero => intro t; simp [wk]
   | succ n ih =>
    intro t
    unfold wk
    cases nxt a.fCode t with
    | none => simp
    | some b =>
     have := ih b
     intro hm
     rcases List.mem_cons.1 hm with q | q
     ·omega
     ·exact this q
  have hr2 := hr (by
   intro hm
   rcases List.mem_cons.1 hm with q | q
   ·omega
   ·exact hnn _ _ q)
  have el : r = lastW a.fCode x.fA := by
   unfold lastW
   rw [et, Int.toNat_natCast, ← et, ← hr2]; rfl
  rw [if_pos rfl, if_pos rfl, sb, ew, sb, el]
  dsimp only
  rw [idx_of he, sb, Int.toNat_natCast]
end
theorem thread_code (a : TFunc) (ha : Fits a) : ∃ w, m_i_ThreadCode a = some w ∧ m_s_ThreadCode a = some w ∧ Fits w := by
 unfold m_i_ThreadCode m_s_ThreadCode
 obtain ⟨v1, i1, s1, f1⟩ := isFunc_fits a ha
 rw [iCopy_eq a ha, sCopy_eq a ha, sb, sb, i1, s1, sb, sb]
 cases v1
 ·rw [if_neg (by simp), if_neg (by simp)]; exact ⟨_, rfl, rfl, ha⟩
 ·obtain ⟨H, eH, sH, hH, hA⟩ := f1 rfl
  rw [if_pos rfl, if_pos rfl, iThread_loop a ha hA, sThread_loop a ha hA, sb]
  exact ⟨_, rfl, rfl, ⟨by simpa using ha.code, ha.slots, ha.params, ha.uses, ha.name⟩⟩
theorem mkN_pos (a : TFunc) (y : Int) (h : 0 ≤ y) : 0 ≤ mkN a y := by unfold mkN; omega
theorem law_threadCode (a : TFunc) (ha : a.Ok) : m_l_FnExactThreadCode a = some true := by
 unfold m_l_FnExactThreadCode
 obtain ⟨v1, e1, c1⟩ := szFunc_eq a ha 1048576 (by omega) (by omega)
 rw [e1, sb]
 rcases c1 with rfl | ⟨p1, p2, fa⟩
 ·rw [if_pos (by omega)]
 rw [if_neg (by omega)]
 obtain ⟨w, hi, hs, fw⟩ := thread_code a fa
 have em := mkN_pos a 1 (by omega)
 have ew := mkN_pos w 1 (by omega)
 rw [toFunc_eq a fa, sb, hs, sb, sb, hi, sb, eqFunc_self w fw, sb, if_pos rfl, sb, eqFunc_self a fa, sb, if_pos rfl, markFunc_eq a fa 1 (by omega) (by omega), sb]
 dsimp only
 rw [if_neg (by omega), sb, if_pos rfl, markFunc_eq w fw 1 (by omega) (by omega), sb]
 dsimp only
 rw [show TFunc.mk w.fName (mkF w 1).fParams (mkF w 1).fUses (mkF w 1).fSlots w.fGen (mkF w 1).fCode = mkF w 1 from rfl, heldFunc_eq w fw 1 (by omega) (by omega), sb, if_neg (by omega), if_pos rfl, sb, hi, sb, eqFunc_self w fw, sb, if_pos rfl, sb, if_neg (by omega), if_pos rfl]
theorem law_threadCodeA (a : TFunc) (ha : a.Ok) : ACall Try.prog 5 [.agg a.cells] [] (fun res _ => res = .bool true) :=
 (ok_l_FnExactThreadCode (law_threadCode a ha)).mono (fun _ _ h => h.1)
end Go.Am
