/- The law FnExactLex. (Printed by gen23.py.) -/
import Derived.Test.YtagfpmbccfghnaaDoorX22
set_option linter.unusedVariables false
set_option linter.unusedSimpArgs false
namespace Go.Am
open Go Go.RowKit Go.Proofs

theorem lexR_len (s : List UInt8) (hs : s.length ≤ 100000) : ∀ (n : Nat) (x : LX), (lexR s n x).2.2.length ≤ x.2.2.length + 3 * n
  | 0, x => by unfold lexR; omega
  | n + 1, x => by
    unfold lexR
    split
    · rename_i h
      have q := (tokX_ok s x.1 x.2.2 h.2 hs).2.1
      have := lexR_len s hs n (tokX s x.1 x.2.2)
      omega
    · omega
theorem lexI_len (s : List UInt8) (h8 : s.length ≤ 4000) : (lexI s).2.2.length ≤ 12002 := by
  have q := lexR_len s (by omega) s.length (inlX s 0 [])
  have q2 := (inlX_ok s 0 []).2.1
  simp only [List.length_nil] at q2
  unfold lexI
  omega
def SpecR (s : List UInt8) (r : PV) : Prop := ACall Tryd.prog 7 [.str s] [] (fun res h => res = r ∧ h = [])
def ImplR (s : List UInt8) (r : PV) (h0 : List AObj) : Prop := ACall Tryd.prog 8 [.str s] [] (fun res h => res = r ∧ h = h0)
theorem lex_cases (s : List UInt8) : (∃ c p, SpecR s (.tup [slT [], .int .i64 c, .int .i64 p]) ∧ ImplR s (.tup [.nils, .int .i64 c, .int .i64 p]) []) ∨
    (∃ t ts, (t :: ts : List Tk).length ≤ 12002 ∧ SpecR s (.tup [slT (t :: ts), .int .i64 0, .int .i64 0]) ∧ ImplR s (.tup [.own 0 0 0 (ts.length + 1), .int .i64 0, .int .i64 0]) [rowT (t :: ts)]) := by
  have hS := specLex_ok s
  have hI := implLexOwn s
  by_cases h8 : 4000 < s.length
  · rw [if_pos h8] at hS
    rw [if_pos h8, if_pos h8] at hI
    exact .inl ⟨1, 0, hS, hI⟩
  · rw [if_neg h8] at hS
    rw [if_neg h8, if_neg h8] at hI
    have hl := lexI_len s (by omega)
    have ha := lex_same s
    obtain ⟨⟨p, c, T⟩, hx⟩ : ∃ x, lexI s = x := ⟨_, rfl⟩
    obtain ⟨⟨p', c', T'⟩, hy⟩ : ∃ x, lexS s s.length (false, 0, []) = x := ⟨_, rfl⟩
    rw [hx] at hI hl ha
    rw [hy] at hS ha
    obtain ⟨h1, h2, h3⟩ := ha
    simp only at h1 h2 h3 hl
    subst h1
    by_cases hc : c' = 0
    · subst hc
      obtain rfl := h3 rfl
      cases T' with
      | nil => exact .inl ⟨0, 0, hS, hI⟩
      | cons t ts => exact .inr ⟨t, ts, hl, hS, hI⟩
    · obtain rfl := h2 hc
      unfold lexSV at hS
      unfold ownV heapT at hI
      simp only [if_neg hc] at hS hI
      exact .inl ⟨c', p', hS, hI⟩

theorem law1 (s : List UInt8) (c p : Int) (hS : SpecR s (.tup [slT [], .int .i64 c, .int .i64 p])) (hI : ImplR s (.tup [.nils, .int .i64 c, .int .i64 p]) []) : ACall Tryd.prog 3 [.str s] [] (fun res _ => res = .bool true) := by
  refine ACall.of_vc tabL_ok mixed Tryd.func3 rfl (by kernel_rfl) _ _ _ rfl (by kernel_rfl) ?_
  refine splitB.mk (fun _ => ⟨[], .bool true, [], by simp, Nat.zero_le _, .bool _, trivial, rfl⟩) (fun _ => ?_)
  refine ⟨_, hS, ?_⟩
  rintro _ _ ⟨rfl, rfl⟩
  refine ⟨_, hI, ?_⟩
  rintro _ _ ⟨rfl, rfl⟩
  refine ⟨fun res h' => res = .bool true ∧ h' = [], ((eqTokenS_ok 0 (by omega) (tkAt [])).snapL (args := [.nils, slT []]) [] ⟨.nils0 _ _, .slc_eq rfl (fun _ _ => rfl), trivial⟩ rfl (by rintro _ _ ⟨rfl, rfl⟩; exact ⟨rfl, by simp⟩)).mono (by rintro _ _ ⟨_, _, ⟨rfl, rfl⟩, rfl, rfl⟩; exact ⟨rfl, rfl⟩), ?_⟩
  rintro _ _ ⟨rfl, rfl⟩
  repeat refine splitB.mk (fun h => by first | exact absurd (of_decide_eq_true h) (by omega) | exact absurd h (by simp)) (fun _ => ?_)
  refine ⟨_, markToken0, ?_⟩
  rintro _ _ ⟨rfl, rfl⟩
  refine ⟨fun res h' => res = .int .i64 ((1 + 4 * 0 : Nat) : Int) ∧ h' = [], ((heldTokenS_ok 0 (by omega)).snapL (args := [.nils, .int .i64 1]) [] ⟨.nils0 _ _, .int _ _, trivial⟩ rfl (by rintro _ _ ⟨rfl, rfl⟩; exact ⟨rfl, by simp⟩)).mono (by rintro _ _ ⟨_, _, ⟨rfl, rfl⟩, rfl, rfl⟩; exact ⟨rfl, rfl⟩), ?_⟩
  rintro _ _ ⟨rfl, rfl⟩
  repeat refine splitB.mk (fun h => by first | exact absurd (of_decide_eq_true h) (by omega) | exact absurd h (by simp)) (fun _ => ?_)
  refine ⟨_, hI, ?_⟩
  rintro _ _ ⟨rfl, rfl⟩
  refine ⟨fun res h' => res = .bool true ∧ h' = [], ((eqTokenS_ok 0 (by omega) (tkAt [])).snapL (args := [.nils, slT []]) [] ⟨.nils0 _ _, .slc_eq rfl (fun _ _ => rfl), trivial⟩ rfl (by rintro _ _ ⟨rfl, rfl⟩; exact ⟨rfl, by simp⟩)).mono (by rintro _ _ ⟨_, _, ⟨rfl, rfl⟩, rfl, rfl⟩; exact ⟨rfl, rfl⟩), ?_⟩
  rintro _ _ ⟨rfl, rfl⟩
  repeat refine splitB.mk (fun h => by first | exact absurd (of_decide_eq_true h) (by omega) | exact absurd h (by simp)) (fun _ => ?_)
  refine ⟨fun res h' => res = .int .i64 ((1 + 4 * 0 : Nat) : Int) ∧ h' = [], ((heldTokenS_ok 0 (by omega)).snapL (args := [.nils, .int .i64 1]) [] ⟨.nils0 _ _, .int _ _, trivial⟩ rfl (by rintro _ _ ⟨rfl, rfl⟩; exact ⟨rfl, by simp⟩)).mono (by rintro _ _ ⟨_, _, ⟨rfl, rfl⟩, rfl, rfl⟩; exact ⟨rfl, rfl⟩), ?_⟩
  rintro _ _ ⟨rfl, rfl⟩
  repeat refine splitB.mk (fun h => by first | exact absurd (of_decide_eq_true h) (by omega) | exact absurd h (by simp)) (fun _ => ?_)
  exact ⟨[], .bool true, [], by simp, Nat.zero_le _, .bool _, trivial, rfl⟩

theorem law2 (s : List UInt8) (t : Tk) (ts : List Tk) (hl : (t :: ts : List Tk).length ≤ 12002) (hS : SpecR s (.tup [slT (t :: ts), .int .i64 0, .int .i64 0])) (hI : ImplR s (.tup [.own 0 0 0 (ts.length + 1), .int .i64 0, .int .i64 0]) [rowT (t :: ts)]) : ACall Tryd.prog 3 [.str s] [] (fun res _ => res = .bool true) := by
  refine ACall.of_vc tabL_ok mixed Tryd.func3 rfl (by kernel_rfl) _ _ _ rfl (by kernel_rfl) ?_
  refine splitB.mk (fun _ => ⟨[], .bool true, [], by simp, Nat.zero_le _, .bool _, trivial, rfl⟩) (fun _ => ?_)
  refine ⟨_, hS, ?_⟩
  rintro _ _ ⟨rfl, rfl⟩
  refine ⟨_, hI, ?_⟩
  rintro _ _ ⟨rfl, rfl⟩
  refine ⟨fun res h' => res = .bool true ∧ h' = [rowT (t :: ts)], ((eqTokenS_ok (ts.length + 1) (by simp only [List.length_cons] at hl; omega) (tkAt (t :: ts))).snapL (args := [.own 0 0 0 (ts.length + 1), slT (t :: ts)]) [rowT (t :: ts)] ⟨.snap rfl rfl rfl (fun _ _ => rfl) (fun i hi => ⟨.int_eq (by rw [Nat.zero_add]), .int_eq (by rw [Nat.zero_add]), .str_eq (by rw [Nat.zero_add]), .int_eq (by rw [Nat.zero_add]), trivial⟩), .slc_eq rfl (fun _ _ => rfl), trivial⟩ rfl (by rintro _ _ ⟨rfl, rfl⟩; exact ⟨rfl, by simp⟩)).mono (by rintro _ _ ⟨_, _, ⟨rfl, rfl⟩, rfl, rfl⟩; exact ⟨rfl, rfl⟩), ?_⟩
  rintro _ _ ⟨rfl, rfl⟩
  repeat refine splitB.mk (fun h => by first | exact absurd (of_decide_eq_true h) (by omega) | exact absurd h (by simp)) (fun _ => ?_)
  refine ⟨_, markTokenS_ok (ts.length + 1) (by simp only [List.length_cons] at hl; omega) (tkAt (t :: ts)), ?_⟩
  rintro _ _ ⟨rfl, rfl⟩
  refine ⟨fun res h' => res = .int .i64 ((1 + 4 * (ts.length + 1) : Nat) : Int) ∧ h' = [rowF (ts.length + 1) mkT], ((heldTokenS_ok (ts.length + 1) (by simp only [List.length_cons] at hl; omega)).snapL (args := [.own 0 0 0 (ts.length + 1), .int .i64 1]) [rowF (ts.length + 1) mkT] ⟨.snap rfl rfl rfl (fun _ _ => rfl) (fun i hi => ⟨.int_eq (by rw [Nat.zero_add]), .int_eq (by rw [Nat.zero_add]), .str_eq (by rw [Nat.zero_add]), .int_eq (by rw [Nat.zero_add]), trivial⟩), .int _ _, trivial⟩ rfl (by rintro _ _ ⟨rfl, rfl⟩; exact ⟨rfl, by simp⟩)).mono (by rintro _ _ ⟨_, _, ⟨rfl, rfl⟩, rfl, rfl⟩; exact ⟨rfl, rfl⟩), ?_⟩
  rintro _ _ ⟨rfl, rfl⟩
  repeat refine splitB.mk (fun h => by first | exact absurd (of_decide_eq_true h) (by omega) | exact absurd h (by simp)) (fun _ => ?_)
  refine ⟨fun res h' => res = .tup [.own 1 0 0 (ts.length + 1), .int .i64 0, .int .i64 0] ∧ h' = [rowF (ts.length + 1) mkT, rowT (t :: ts)], (ACall.frame hI [rowF (ts.length + 1) mkT] rfl).mono (by rintro _ _ ⟨_, _, ⟨rfl, rfl⟩, rfl, rfl⟩; exact ⟨rfl, rfl⟩), ?_⟩
  rintro _ _ ⟨rfl, rfl⟩
  refine ⟨fun res h' => res = .bool true ∧ h' = [rowF (ts.length + 1) mkT, rowT (t :: ts)], ((eqTokenS_ok (ts.length + 1) (by simp only [List.length_cons] at hl; omega) (tkAt (t :: ts))).snapL (args := [.own 1 0 0 (ts.length + 1), slT (t :: ts)]) [rowF (ts.length + 1) mkT, rowT (t :: ts)] ⟨.snap rfl rfl rfl (fun _ _ => rfl) (fun i hi => ⟨.int_eq (by rw [Nat.zero_add]), .int_eq (by rw [Nat.zero_add]), .str_eq (by rw [Nat.zero_add]), .int_eq (by rw [Nat.zero_add]), trivial⟩), .slc_eq rfl (fun _ _ => rfl), trivial⟩ rfl (by rintro _ _ ⟨rfl, rfl⟩; exact ⟨rfl, by simp⟩)).mono (by rintro _ _ ⟨_, _, ⟨rfl, rfl⟩, rfl, rfl⟩; exact ⟨rfl, rfl⟩), ?_⟩
  rintro _ _ ⟨rfl, rfl⟩
  repeat refine splitB.mk (fun h => by first | exact absurd (of_decide_eq_true h) (by omega) | exact absurd h (by simp)) (fun _ => ?_)
  refine ⟨fun res h' => res = .int .i64 ((1 + 4 * (ts.length + 1) : Nat) : Int) ∧ h' = [rowF (ts.length + 1) mkT, rowT (t :: ts)], ((heldTokenS_ok (ts.length + 1) (by simp only [List.length_cons] at hl; omega)).snapL (args := [.own 0 0 0 (ts.length + 1), .int .i64 1]) [rowF (ts.length + 1) mkT, rowT (t :: ts)] ⟨.snap rfl rfl rfl (fun _ _ => rfl) (fun i hi => ⟨.int_eq (by rw [Nat.zero_add]), .int_eq (by rw [Nat.zero_add]), .str_eq (by rw [Nat.zero_add]), .int_eq (by rw [Nat.zero_add]), trivial⟩), .int _ _, trivial⟩ rfl (by rintro _ _ ⟨rfl, rfl⟩; exact ⟨rfl, by simp⟩)).mono (by rintro _ _ ⟨_, _, ⟨rfl, rfl⟩, rfl, rfl⟩; exact ⟨rfl, rfl⟩), ?_⟩
  rintro _ _ ⟨rfl, rfl⟩
  repeat refine splitB.mk (fun h => by first | exact absurd (of_decide_eq_true h) (by omega) | exact absurd h (by simp)) (fun _ => ?_)
  exact ⟨[], .bool true, [], by simp, Nat.zero_le _, .bool _, trivial, rfl⟩

/-- The law. -/
theorem lawLex (s : List UInt8) : ACall Tryd.prog 3 [.str s] [] (fun res _ => res = .bool true) := by
  rcases lex_cases s with ⟨c, p, hS, hI⟩ | ⟨t, ts, hl, hS, hI⟩
  · exact law1 s c p hS hI
  · exact law2 s t ts hl hS hI

end Go.Am
