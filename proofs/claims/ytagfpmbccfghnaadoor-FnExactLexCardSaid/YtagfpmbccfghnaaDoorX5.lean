/- Numbers and quoted texts. (Printed by gen5.py.) -/
import Derived.Test.YtagfpmbccfghnaaDoorX4
set_option linter.unusedVariables false
set_option linter.unusedSimpArgs false
namespace Go.Am
open Go Go.RowKit Go.Proofs

theorem parseSigned_ok (s : List UInt8) (h : List AObj) : ACall Tryd.prog 69 [.str s] h (fun res h' => res = pwR (pw s (-1000000000) 1000000000) ∧ h' = h) := by
  have base : ACall Tryd.prog 69 [.str s] [] (fun res h' => res = pwR (pw s (-1000000000) 1000000000) ∧ h' = []) := by
    have c := parseWithin_ok s (-1000000000) 1000000000 []
    cases hp : pw s (-1000000000) 1000000000 with
    | none =>
      rw [hp] at c
      refine ACall.of_vc tabL_ok mixed Tryd.func69 rfl (by kernel_rfl) _ _ _ rfl (by kernel_rfl) ?_
      refine ⟨_, c, ?_⟩
      rintro _ _ ⟨rfl, rfl⟩
      exact ⟨[], .tup [.int .i64 0, .bool false], [], by simp, Nat.zero_le _, .tup_l ⟨.int_eq rfl, .bool_eq rfl, trivial⟩, trivial, rfl, rfl⟩
    | some n =>
      rw [hp] at c
      refine ACall.of_vc tabL_ok mixed Tryd.func69 rfl (by kernel_rfl) _ _ _ rfl (by kernel_rfl) ?_
      refine ⟨_, c, ?_⟩
      rintro _ _ ⟨rfl, rfl⟩
      exact ⟨[], .tup [.int .i64 n, .bool true], [], by simp, Nat.zero_le _, .tup_l ⟨.int_eq rfl, .bool_eq rfl, trivial⟩, trivial, rfl, rfl⟩
  refine base.frame0 h rfl (fun n => ?_)
  cases pw s (-1000000000) 1000000000 <;> rfl

/-! ### Quoted texts -/
def strGo : List UInt8 → List UInt8 → Nat → Option (List UInt8 × Nat)
  | [], _, _ => none
  | [c], acc, i => if c.toNat = 39 then (if 400 < acc.length then none else some (acc, i + 1)) else none
  | c :: d :: r, acc, i => if c.toNat = 39 then (if 400 < acc.length then none else some (acc, i + 1))
    else if c.toNat = 92 ∧ (d.toNat = 39 ∨ d.toNat = 92) then strGo r (acc ++ [d]) (i + 2) else strGo (d :: r) (acc ++ [c]) (i + 1)

theorem drop_get {l : List UInt8} {i : Nat} (h : i < l.length) : l.drop i = l.getD i 0 :: l.drop (i + 1) := by
  rw [List.drop_eq_getElem_cons h, List.getD_eq_getElem?_getD, List.getElem?_eq_getElem h]; rfl
/-- At the end of the text. -/
theorem strGo_end {l acc : List UInt8} {i : Nat} (h : ¬ i < l.length) : strGo (l.drop i) acc i = none := by
  rw [List.drop_eq_nil_of_le (by omega)]; rfl
theorem strGo_quote {l acc : List UInt8} {i : Nat} (h : i < l.length) (hc : (l.getD i 0).toNat = 39) : strGo (l.drop i) acc i = if 400 < acc.length then none else some (acc, i + 1) := by
  rw [drop_get h]
  by_cases h2 : i + 1 < l.length
  · rw [drop_get h2]; unfold strGo; rw [if_pos hc]
  · rw [List.drop_eq_nil_of_le (by omega)]; unfold strGo; rw [if_pos hc]
theorem strGo_esc {l acc : List UInt8} {i : Nat} (h : i + 1 < l.length) (hc : ¬ (l.getD i 0).toNat = 39) (hb : (l.getD i 0).toNat = 92) (hd : (l.getD (i + 1) 0).toNat = 39 ∨ (l.getD (i + 1) 0).toNat = 92) :
    strGo (l.drop i) acc i = strGo (l.drop (i + 2)) (acc ++ [l.getD (i + 1) 0]) (i + 2) := by
  rw [drop_get (by omega : i < l.length), drop_get h]
  conv => lhs; unfold strGo
  rw [if_neg hc, if_pos ⟨hb, hd⟩]
theorem strGo_step {l acc : List UInt8} {i : Nat} (h : i < l.length) (hc : ¬ (l.getD i 0).toNat = 39) (hb : ¬ ((l.getD i 0).toNat = 92 ∧ i + 1 < l.length ∧ ((l.getD (i + 1) 0).toNat = 39 ∨ (l.getD (i + 1) 0).toNat = 92))) :
    strGo (l.drop i) acc i = strGo (l.drop (i + 1)) (acc ++ [l.getD i 0]) (i + 1) := by
  rw [drop_get h]
  by_cases h2 : i + 1 < l.length
  · rw [drop_get h2]
    conv => lhs; unfold strGo
    rw [if_neg hc, if_neg (fun hx => hb ⟨hx.1, h2, hx.2⟩)]
  · rw [List.drop_eq_nil_of_le (by omega : l.length ≤ i + 1)]
    unfold strGo
    rw [if_neg hc]

abbrev bcell (acc : List UInt8) (i : Nat) : List PV := [.int .u8 (acc.getD i 0).toNat]
theorem bytes_row (acc : List UInt8) : ((List.range acc.length).map fun i => byteOf (bcell acc (0 + i))) = acc := by
  apply List.ext_getElem
  · simp
  · intro i h1 h2
    simp [byteOf, List.getElem?_eq_getElem h2]
theorem bcell_snoc (acc : List UInt8) (c : UInt8) (i : Nat) (h : i < acc.length + 1) : (acc ++ [c]).getD i 0 = if i < acc.length then acc.getD i 0 else c := by
  split
  · rename_i hi
    rw [List.getD_eq_getElem?_getD, List.getD_eq_getElem?_getD, List.getElem?_append_left hi]
  · rename_i hi
    have : i = acc.length := by omega
    subst this
    rw [List.getD_eq_getElem?_getD]
    simp

/-- What a text's token makes of the lexer. -/
def textH (s : List UInt8) (pos : Int) (ts : List Tk) : Option (List UInt8 × Nat) → List AObj
  | none => LH s pos 3 ts
  | some (t, n) => LH s (IntKind.i64.wrap (pos + n)) 0 (ts ++ [⟨5, 0, t, pos⟩])

end Go.Am
