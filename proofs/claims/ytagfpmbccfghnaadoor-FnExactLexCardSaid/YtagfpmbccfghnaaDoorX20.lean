/- The implementation of Lex: its tokens as a row of the caller's own. (Printed by gen20.py.) -/
import Derived.Test.YtagfpmbccfghnaaDoorX19
set_option linter.unusedVariables false
set_option linter.unusedSimpArgs false
namespace Go.Am
open Go Go.RowKit Go.Proofs

def ownT : List Tk → PV
  | [] => .nils
  | t :: ts => .own 0 0 0 (ts.length + 1)
def heapTk : List Tk → List AObj
  | [] => []
  | t :: ts => [rowT (t :: ts)]
def ownV (x : LX) : PV := if x.2.1 = 0 then .tup [ownT x.2.2, .int .i64 0, .int .i64 0] else .tup [.nils, .int .i64 x.2.1, .int .i64 x.1]
def heapT (x : LX) : List AObj := if x.2.1 = 0 then heapTk x.2.2 else []
theorem endLexOwn (s : List UInt8) (x : LX) (hx : x = lexI s) (hc : x.2.1 = 0) (h8 : s.length ≤ 4000) :
    Ends 0 (fun res h => res = (if 4000 < s.length then .tup [.nils, .int .i64 1, .int .i64 0] else ownV (lexI s)) ∧ h = (if 4000 < s.length then [] else heapT (lexI s))) (LHy s x) [ownOf x.2.2, .int .i64 0, .int .i64 0] := by
  obtain ⟨p, c, T⟩ := x
  have e : ownV (lexI s) = .tup [ownT T, .int .i64 0, .int .i64 0] := by rw [← hx]; unfold ownV; rw [if_pos hc]
  have e2 : heapT (lexI s) = heapTk T := by rw [← hx]; unfold heapT; rw [if_pos hc]
  rw [if_neg (by omega), if_neg (by omega), e, e2]
  cases T with
  | nil => exact ⟨[], .tup [.nils, .int .i64 0, .int .i64 0], [], by simp, Nat.zero_le _, .tup_l ⟨.nils, .int_eq rfl, .int_eq rfl, trivial⟩, trivial, rfl, rfl⟩
  | cons t ts => exact ⟨[1], .tup [.own 0 0 0 (ts.length + 1), .int .i64 0, .int .i64 0], [rowT (t :: ts)], by simp, Nat.zero_le _, .tup_l ⟨.own_eq rfl ⟨_, _, _, _, rfl⟩ ⟨_, _, _, _, rfl⟩ rfl rfl, .int_eq rfl, .int_eq rfl, trivial⟩, ⟨⟨fun h => absurd h (Nat.not_lt_zero _), rfl, rfl, rfl, fun i hi => fzTok rfl⟩, trivial⟩, rfl, rfl⟩
theorem implLexOwn (s : List UInt8) : ACall Tryd.prog 8 [.str s] [] (fun res h => res = (if 4000 < s.length then .tup [.nils, .int .i64 1, .int .i64 0] else ownV (lexI s)) ∧ h = (if 4000 < s.length then [] else heapT (lexI s))) := by
  refine ACall.of_vc tabL_ok mixed Tryd.func8 rfl (by kernel_rfl) _ _ _ rfl (by kernel_rfl) ?_
  refine splitB.mk (fun h8 => ?_) (fun h8 => ?_)
  · have h8 : 4000 < s.length := by have q := of_decide_eq_true h8; omega
    exact ⟨[], .tup [.nils, .int .i64 1, .int .i64 0], [], by simp, Nat.zero_le _, .tup_l ⟨.nils, .int_eq rfl, .int_eq rfl, trivial⟩, trivial, by rw [if_pos h8], by rw [if_pos h8]⟩
  · have h8 : s.length ≤ 4000 := by have q := of_decide_eq_false h8; omega
    refine ⟨rfl, ?_⟩
    have qi := inlX_ok s 0 []
    have ei : inlH s 0 [] = LHy s (inlX s 0 []) := by rw [qi.1]; exact LH_eq _ _ _ _
    refine ⟨_, ((inl_ok s 0 [] (by simp) (by omega) (by omega)).mono (fun _ h hh => show h = LHy s (inlX s 0 []) from by rw [hh, ei])).heq ⟨⟨rfl, rfl, rfl, rfl, fun i hi => by obtain rfl : i = 0 := (by omega); rfl⟩, trivial⟩, ?_⟩
    rintro _ _ rfl
    refine LoopVC.mk LX (fun _ => [(0, .str s), (5, .optr 0 0 0 0)]) (fun x => LHy s x) (fun x => (x.2.1 = 0 → x.2.2.length ≤ 3 * x.1 + 2) ∧ ∃ n, lexR s n x = lexI s ∧ (x.2.1 = 0 → s.length ≤ x.1 + n)) (fun x => 2 * (s.length - x.1) + (if x.2.1 = 0 then 1 else 0)) (inlX s 0 []) ⟨fun _ => by have := qi.2.1; simp at this; omega, s.length, rfl, fun _ => by omega⟩ ?_ (fun x ok => ?_)
    · exact taken_LH _ rfl rfl
    · obtain ⟨ok1, n, hR, ok2⟩ := ok
      iterate 2 refine ⟨rfl, ?_⟩
      refine splitB.mk (fun h15 => ?_) (fun h15 => ?_)
      · refine ⟨rfl, ?_⟩
        refine splitB.mk (fun _ => ?_) (fun h => absurd h (by decide))
        refine ⟨rfl, ?_⟩
        iterate 4 refine splitB.mk (fun _ => ?_) (fun h => absurd h (by decide))
        refine splitB.mk (fun h21 => ?_) (fun h21 => ?_)
        · have hp : x.1 < s.length := by have q := of_decide_eq_true h21; omega
          have hc0 : x.2.1 = 0 := eq_of_beq h15
          have q := tokX_ok s x.1 x.2.2 hp (by omega)
          have q1 := ok1 hc0
          have ct := token_ok s x.1 x.2.2 (by omega) hp (by omega)
          have ex : LHy s x = LH s x.1 0 x.2.2 := by (rw [LH_eq]; obtain ⟨p, c, T⟩ := x; have e : c = 0 := hc0; rw [e])
          have ey : tokH s x.1 x.2.2 = LHy s (tokX s x.1 x.2.2) := by rw [q.1]; exact LH_eq _ _ _ _
          rw [← ex, ey] at ct
          obtain ⟨n, rfl⟩ : ∃ n', n = n' + 1 := ⟨n - 1, by have := ok2 hc0; omega⟩
          have hR2 : lexR s n (tokX s x.1 x.2.2) = lexI s := by unfold lexR at hR; rw [if_pos ⟨hc0, hp⟩] at hR; exact hR
          refine ⟨_, ct, ?_⟩
          rintro _ _ rfl
          exact ⟨tokX s x.1 x.2.2, ⟨fun h => by have := q.2.2.2 h; have := q.2.1; omega, n, hR2, fun h => by have := q.2.2.2 h; have := ok2 hc0; omega⟩, by (have q3 := q.2.2.1; have q4 := q.2.2.2; simp only; rw [if_pos hc0]; by_cases h : (tokX s x.1 x.2.2).2.1 = 0; (rw [if_pos h]; have := q4 h; omega); (rw [if_neg h]; omega)), taken_LH _ rfl rfl⟩
        · have hst : ¬ (x.2.1 = 0 ∧ x.1 < s.length) := fun h => by have q := of_decide_eq_false h21; have := h.2; omega
          have hx : x = lexI s := by rw [← hR, lexR_stop hst]
          refine ⟨rfl, rfl, ?_⟩
          refine splitB.mk (fun h25 => ?_) (fun h25 => ?_)
          · have hc : x.2.1 ≠ 0 := by simpa using h25
            refine ⟨rfl, rfl, rfl, rfl, ?_⟩
            exact ⟨[], .tup [.nils, .int .i64 x.2.1, .int .i64 x.1], [], by simp, Nat.zero_le _, .tup_l ⟨.nils, .int_eq rfl, .int_eq rfl, trivial⟩, trivial, by rw [if_neg (by omega), ← hx]; unfold ownV; rw [if_neg hc], by rw [if_neg (by omega), ← hx]; unfold heapT; rw [if_neg hc]⟩
          · have hc : x.2.1 = 0 := by simpa using h25
            refine ⟨rfl, rfl, ?_⟩
            obtain ⟨p, c, T⟩ := x
            cases T with
            | nil => exact endLexOwn s (p, c, []) hx hc h8
            | cons t ts => exact endLexOwn s (p, c, t :: ts) hx hc h8
      · refine splitB.mk (fun h => absurd h (by decide)) (fun _ => ?_)
        iterate 5 refine splitB.mk (fun h => absurd h (by decide)) (fun _ => ?_)
        have hst : ¬ (x.2.1 = 0 ∧ x.1 < s.length) := fun h => absurd h.1 (ne_of_beq_false h15)
        have hx : x = lexI s := by rw [← hR, lexR_stop hst]
        refine ⟨rfl, rfl, ?_⟩
        refine splitB.mk (fun h25 => ?_) (fun h25 => ?_)
        · have hc : x.2.1 ≠ 0 := by simpa using h25
          refine ⟨rfl, rfl, rfl, rfl, ?_⟩
          exact ⟨[], .tup [.nils, .int .i64 x.2.1, .int .i64 x.1], [], by simp, Nat.zero_le _, .tup_l ⟨.nils, .int_eq rfl, .int_eq rfl, trivial⟩, trivial, by rw [if_neg (by omega), ← hx]; unfold ownV; rw [if_neg hc], by rw [if_neg (by omega), ← hx]; unfold heapT; rw [if_neg hc]⟩
        · have hc : x.2.1 = 0 := by simpa using h25
          refine ⟨rfl, rfl, ?_⟩
          obtain ⟨p, c, T⟩ := x
          cases T with
          | nil => exact endLexOwn s (p, c, []) hx hc h8
          | cons t ts => exact endLexOwn s (p, c, t :: ts) hx hc h8

end Go.Am
