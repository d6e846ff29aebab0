/- The law's helper: markTokenS. -/
import Derived.Test.YtagfpmbccfghnaaDoorX21
set_option linter.unusedVariables false
set_option linter.unusedSimpArgs false
namespace Go.Am
open Go Go.RowKit Go.Proofs

theorem fset_same (f : Nat → List PV) (i : Nat) (l : List PV) : fset f i l i = l := by unfold fset; simp
theorem fset_ne (f : Nat → List PV) (i j : Nat) (l : List PV) (h : j ≠ i) : fset f i l j = f j := by
  unfold fset
  cases hb : Nat.beq j i with
  | true => exact absurd (Nat.eq_of_beq_eq_true hb) h
  | false => rfl
theorem fset4 {h η : List AObj} {ks : List Nat} {f f1 f2 f3 f' : Nat → List PV} {k0 n : Nat} {c1 c2 c3 c4 : List PV} (e1 : f1 = fset f k0 (listSet (f k0) 0 c1)) (e2 : f2 = fset f1 k0 (listSet (f1 k0) 1 c2)) (e3 : f3 = fset f2 k0 (listSet (f2 k0) 2 c3))
    (hk : FzL h η ks (listSet (listSet (listSet (listSet (f k0) 0 c1) 1 c2) 2 c3) 3 c4) (f' k0)) (hne : ∀ i, i < n → i ≠ k0 → FzL h η ks (f i) (f' i)) :
    ∀ i, i < n → FzL h η ks (fset f3 k0 (listSet (f3 k0) 3 c4) i) (f' i) := by
  intro i hi
  by_cases he : i = k0
  · subst he
    rw [fset_same]
    have q1 : f1 i = listSet (f i) 0 c1 := by rw [e1, fset_same]
    have q2 : f2 i = listSet (f1 i) 1 c2 := by rw [e2, fset_same]
    have q3 : f3 i = listSet (f2 i) 2 c3 := by rw [e3, fset_same]
    rw [q3, q2, q1]
    exact hk
  · rw [fset_ne _ _ _ _ he, e3, fset_ne _ _ _ _ he, e2, fset_ne _ _ _ _ he, e1, fset_ne _ _ _ _ he]
    exact hne i hi he

abbrev mix (g : Nat → Tk) (k : Nat) (i : Nat) : Tk := if i < k then mkT i else g i
theorem mixT {g : Nat → Tk} {k i : Nat} (h : i < k) : mix g k i = mkT i := if_pos h
theorem mixF {g : Nat → Tk} {k i : Nat} (h : ¬ i < k) : mix g k i = g i := if_neg h
abbrev rowF (n : Nat) (f : Nat → Tk) : AObj := .row 0 4 n 33 (fun i => (f i).cells)
theorem markTokenS_ok (n : Nat) (hn : n ≤ 1000000) (g : Nat → Tk) : ACall Tryd.prog 10 [.own 0 0 0 n, .int .i64 1] [rowF n g] (fun res h => res = .int .i64 ((1 + 4 * n : Nat) : Int) ∧ h = [rowF n mkT]) := by
  refine ACall.of_vc tabL_ok mixed Tryd.func10 rfl (by kernel_rfl) _ _ _ rfl (by kernel_rfl) ?_
  refine LoopVC.mk Nat (fun k => [(0, .own 0 0 0 n), (1, .int .i64 ((1 + 4 * k : Nat) : Int)), (5, .int .i64 k)]) (fun k => [rowF n (mix g k)]) (fun k => k ≤ n) (fun k => n - k) 0 (Nat.zero_le _) ?_ (fun k hk => ?_)
  · exact ⟨[0], by simp, by simp, ⟨.own_eq rfl ⟨_, _, _, _, rfl⟩ ⟨_, _, _, _, rfl⟩ rfl rfl, .int_eq rfl, .int_eq rfl, trivial⟩, ⟨⟨fun _ => ⟨rfl, rfl⟩, rfl, rfl, rfl, fun i hi => fzTok (by rw [mixF (Nat.not_lt_zero _)])⟩, trivial⟩⟩
  · have e2 : IntKind.i64.wrap (((1 + 4 * k : Nat) : Int) + 1) = ((2 + 4 * k : Nat) : Int) := by rw [w64] <;> omega
    have e3 : IntKind.i64.wrap (((2 + 4 * k : Nat) : Int) + 1) = ((3 + 4 * k : Nat) : Int) := by rw [w64] <;> omega
    have e4 : IntKind.i64.wrap (((3 + 4 * k : Nat) : Int) + 1) = ((4 + 4 * k : Nat) : Int) := by rw [w64] <;> omega
    have e5 : IntKind.i64.wrap (((4 + 4 * k : Nat) : Int) + 1) = ((1 + 4 * (k + 1) : Nat) : Int) := by rw [w64] <;> omega
    have ct := markText_ok (3 + 4 * k) (by omega) (by omega)
    rw [← e3, ← e2] at ct
    refine ⟨rfl, splitB.mk (fun h => ?_) (fun h => ?_)⟩
    · have hkn : k < n := by have q := of_decide_eq_true h; omega
      refine ⟨rfl, ⟨by omega, by omega⟩, rfl, rfl, ?_⟩
      refine ⟨rfl, ⟨by omega, by omega⟩, rfl, rfl, ?_⟩
      refine ⟨_, ct.frame0 _ rfl (fun _ => rfl), ?_⟩
      rintro _ _ ⟨rfl, rfl⟩
      refine ⟨rfl, ⟨by omega, by omega⟩, rfl, rfl, ?_⟩
      refine ⟨rfl, ⟨by omega, by omega⟩, rfl, rfl, ?_⟩
      refine ⟨k + 1, by omega, by simp only; omega, [0], by simp, by simp, ⟨.own_eq rfl ⟨_, _, _, _, rfl⟩ ⟨_, _, _, _, rfl⟩ rfl rfl, .int_eq (by rw [e2, e3, e4, e5]), .int_eq (by rw [w64] <;> omega), trivial⟩, ⟨⟨fun _ => ⟨rfl, rfl⟩, rfl, rfl, rfl, fset4 rfl rfl rfl ?_ (fun i hi hne => ?_)⟩, trivial⟩⟩
      · have em : mix g (k + 1) (0 + ((k : Nat) : Int).toNat) = mkT k := by rw [mixT (by simp)]; simp
        refine ⟨.int_eq ?_, .int_eq ?_, .str_eq ?_, .int_eq ?_, trivial⟩
        · rw [em]; rfl
        · rw [em, e2]; rfl
        · rw [em]; rfl
        · rw [em, e2, e3, e4]; rfl
      · have hne : i ≠ k := by simpa using hne
        refine fzTok ?_
        by_cases h1 : i < k
        · rw [mixT h1, mixT (by omega)]
        · rw [mixF h1, mixF (by omega)]
    · have hkn : k = n := by have q := of_decide_eq_false h; omega
      subst hkn
      exact ⟨[0], .int .i64 ((1 + 4 * k : Nat) : Int), [rowF k mkT], by simp, by simp, .int _ _, ⟨⟨fun _ => ⟨rfl, rfl⟩, rfl, rfl, rfl, fun i hi => fzTok (show (mix g k i).cells = (mkT i).cells by rw [mixT hi])⟩, trivial⟩, rfl, rfl⟩

end Go.Am
