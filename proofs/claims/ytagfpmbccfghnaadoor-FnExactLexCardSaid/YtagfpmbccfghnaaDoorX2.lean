/- The lexer's state, and add. -/
import Derived.Test.YtagfpmbccfghnaaDoorX1
set_option linter.unusedVariables false
set_option linter.unusedSimpArgs false
namespace Go.Am
open Go Go.RowKit Go.Proofs

def zTok : List PV := [.int .i64 0, .int .i64 0, .str [], .int .i64 0]
def zLex : List PV := [.str [], .int .i64 0, .nils, .int .i64 0]
def f4 : List (Nat × Nat × Bool) := [(0, 1, false), (1, 1, false), (2, 1, false), (3, 1, false)]
def tabL : Tab := mkTab [(3, .int .i64), (4, .bool), (5, .int .u8), (9, .str), (22, .slice 33 4 40 zTok), (33, .struct 4 f4 zTok), (63, .struct 4 f4 zLex), (28, .slice 5 1 1 [.int .u8 0]), (71, .slice 9 1 16 [.str []])]
theorem tabL_ok : TabOk Tryd.prog tabL := tabOk (by kernel_rfl)
theorem mixed : Tryd.prog.follows .mixedOrders = true := by kernel_rfl

structure Tk where
  kind : Int
  num : Int
  text : List UInt8
  pos : Int
def Tk.zero : Tk := ⟨0, 0, [], 0⟩
abbrev Tk.cells (t : Tk) : List PV := [.int .i64 t.kind, .int .i64 t.num, .str t.text, .int .i64 t.pos]
abbrev tkAt (ts : List Tk) (i : Nat) : Tk := ts.getD i Tk.zero
/-- The lexer, and the row of its tokens. -/
abbrev lexO (s : List UInt8) (pos : Int) (o : PV) (code : Int) : AObj := .row 0 4 1 63 (fun _ => [.str s, .int .i64 pos, o, .int .i64 code])
def LH (s : List UInt8) (pos : Int) (code : Int) : List Tk → List AObj
  | [] => [lexO s pos .nils code]
  | t :: ts => [lexO s pos (.own 1 ts.length 0 (ts.length + 1)) code, .row ts.length 4 (ts.length + 1) 33 (fun i => (tkAt (t :: ts) i).cells)]

theorem tkAt_snoc (ts : List Tk) (t : Tk) (i : Nat) (h : i < ts.length + 1) : tkAt (ts ++ [t]) i = if i < ts.length then tkAt ts i else t := by
  unfold tkAt
  split
  · rename_i hi
    rw [List.getD_eq_getElem?_getD, List.getD_eq_getElem?_getD, List.getElem?_append_left hi]
  · rename_i hi
    have : i = ts.length := by omega
    subst this
    rw [List.getD_eq_getElem?_getD]
    simp

theorem add_ok (s : List UInt8) (pos code k num size : Int) (text : List UInt8) (ts : List Tk) (hn : ts.length ≤ 1000000) :
    ACall Tryd.prog 65 [.optr 0 0 0 0, .int .i64 k, .int .i64 num, .str text, .int .i64 size] (LH s pos code ts) (fun _ h => h = LH s (IntKind.i64.wrap (pos + size)) code (ts ++ [⟨k, num, text, pos⟩])) := by
  cases ts with
  | nil =>
    refine ACall.of_vc tabL_ok mixed Tryd.func65 rfl (by kernel_rfl) _ _ _ rfl (by kernel_rfl) ?_
    refine .float [(0, true), (1, true), (2, true), (3, true), (4, true), (5, true), (6, true), (7, true), (8, true), (9, true), (10, true), (11, true), (12, true), (13, false), (14, false), (15, true), (16, true), (17, false)] (by kernel_rfl) ?_
    repeat refine ⟨rfl, ?_⟩
    refine ⟨by decide, ?_⟩
    repeat refine ⟨rfl, ?_⟩
    exact ⟨[0, 2], .junk, LH s (IntKind.i64.wrap (pos + size)) code [⟨k, num, text, pos⟩], by simp, (show 1 ≤ 2 by decide), .junk _,
      ⟨⟨fun _ => ⟨rfl, rfl⟩, rfl, rfl, rfl, fun i hi => by
          obtain rfl : i = 0 := by omega
          exact ⟨.str_eq rfl, .int_eq rfl, .own_eq rfl ⟨_, _, _, _, rfl⟩ ⟨_, _, _, _, rfl⟩ rfl rfl, .int_eq rfl, trivial⟩⟩,
       ⟨fun h => absurd (show 1 < 1 from h) (by decide), rfl, rfl, rfl, fun i hi => by
          have : i = 0 := by omega
          subst this
          exact ⟨.int_eq rfl, .int_eq rfl, .str_eq rfl, .int_eq rfl, trivial⟩⟩, trivial⟩, rfl⟩
  | cons t ts =>
    refine ACall.of_vc tabL_ok mixed Tryd.func65 rfl (by kernel_rfl) _ _ _ rfl (by kernel_rfl) ?_
    refine .float [(0, true), (1, true), (2, true), (3, true), (4, true), (5, true), (6, true), (7, true), (8, true), (9, true), (10, true), (11, true), (12, true), (13, false), (14, false), (15, true), (16, true), (17, false)] (by kernel_rfl) ?_
    repeat refine ⟨rfl, ?_⟩
    refine ⟨by simp at hn; omega, ?_⟩
    repeat refine ⟨rfl, ?_⟩
    have hl : (t :: ts ++ [⟨k, num, text, pos⟩]) = t :: (ts ++ [⟨k, num, text, pos⟩]) := rfl
    have hl2 : (ts ++ [(⟨k, num, text, pos⟩ : Tk)]).length = ts.length + 1 := by simp
    have hη : LH s (IntKind.i64.wrap (pos + size)) code (t :: ts ++ [⟨k, num, text, pos⟩]) = [lexO s (IntKind.i64.wrap (pos + size)) (.own 1 (ts.length + 1) 0 (ts.length + 1 + 1)) code, .row (ts.length + 1) 4 (ts.length + 1 + 1) 33 (fun i => (tkAt (t :: ts ++ [⟨k, num, text, pos⟩]) i).cells)] := by
      rw [hl]
      show [lexO s _ (.own 1 (ts ++ [(⟨k, num, text, pos⟩ : Tk)]).length 0 ((ts ++ [(⟨k, num, text, pos⟩ : Tk)]).length + 1)) code, .row (ts ++ [(⟨k, num, text, pos⟩ : Tk)]).length 4 ((ts ++ [(⟨k, num, text, pos⟩ : Tk)]).length + 1) 33 _] = _
      rw [hl2]
    refine ⟨[0, 1], .junk, _, by simp, (show 2 ≤ 2 by decide), .junk _, ?_, hη.symm⟩
    refine ⟨⟨fun _ => ⟨rfl, rfl⟩, rfl, rfl, rfl, fun i hi => by
          obtain rfl : i = 0 := by omega
          exact ⟨.str_eq rfl, .int_eq rfl, .own_eq rfl ⟨_, _, _, _, rfl⟩ ⟨_, _, _, _, rfl⟩ rfl rfl, .int_eq rfl, trivial⟩⟩,
       ⟨fun _ => ⟨rfl, rfl⟩, rfl, rfl, rfl, fun i hi => ?_⟩, trivial⟩
    have et := tkAt_snoc (t :: ts) ⟨k, num, text, pos⟩ i (by simpa using hi)
    by_cases hil : i < ts.length + 1
    · have e : Nat.blt i (ts.length + 1) = true := by simpa [Nat.blt_eq] using hil
      rw [if_pos (by simpa using hil)] at et
      simp only [e, cond_true, Nat.zero_add]
      exact ⟨.int_eq (by rw [et]), .int_eq (by rw [et]), .str_eq (by rw [et]), .int_eq (by rw [et]), trivial⟩
    · have e : Nat.blt i (ts.length + 1) = false := by
        cases hb : Nat.blt i (ts.length + 1) with
        | false => rfl
        | true => exact absurd (Nat.le_of_ble_eq_true hb) (by omega)
      have e2 : i - (ts.length + 1) = 0 := by omega
      rw [if_neg (by simpa using hil)] at et
      simp only [e, cond_false, e2]
      exact ⟨.int_eq (by rw [et]), .int_eq (by rw [et]), .str_eq (by rw [et]), .int_eq (by rw [et]), trivial⟩

end Go.Am
